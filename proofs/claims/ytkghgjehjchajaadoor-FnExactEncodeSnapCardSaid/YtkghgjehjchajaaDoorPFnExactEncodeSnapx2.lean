-- Written by a program of this session (patch_print.py over the kit print)
import Derived.Test.YtkghgjehjchajaaDoorPFnExactEncodeSnapx0
import Derived.Test.YtkghgjehjchajaaDoorPFnExactEncodeSnapx1
namespace Go.Proofs.YtkghgjehjchajaaDoor.PFnExactEncodeSnap
open Go.RowKit Go.Proofs.YtkghgjehjchajaaDoorW.PrintWords Go.Proofs.YtkghgjehjchajaaDoorW.PrintLast Go.Proofs.YtkghgjehjchajaaDoorW.PrintMore
attribute [local go_sem] max2_int min2_int max_two min_two max_three min_three max_four min_four   -- for this text's walks alone
set_option linter.unusedVariables false
set_option linter.unusedSimpArgs false

open Go.Proofs.YtkghgjehjchajaaDoorW Go.Proofs.YtkghgjehjchajaaDoorW.PrintHand Go.Proofs.YtkghgjehjchajaaDoorW.PrintHx
/-! ### impl_Root_right: function 78 -/
def impl_Root_right.f (a0 : List Int) : Option Bool := some (rootGood a0)
theorem impl_Root_right.within (a b c : Int) : impl_within.f a b c = some (decide (b ≤ a ∧ a ≤ c)) := by
  unfold impl_within.f
  by_cases h : b ≤ a <;> simp [h]
theorem impl_Root_right.ptr (p : Int) : impl_isPointer.f p 2048 = some (ptrOk p) := by
  unfold impl_isPointer.f ptrOk
  by_cases h : p = 0
  · simp [h]
  · rw [if_neg h, impl_Root_right.within, Option.bind_some, show wrap64 (2048 - 1) = 2047 by unfold wrap64; omega]
    congr 1
    rw [decide_eq_false h, Bool.false_or, ← Bool.decide_and]
    apply decide_eq_decide.2
    omega
theorem impl_Root_right.count (s : Int) (h0 : 0 ≤ s) (h1 : s ≤ 262144) : impl_count.f s = some ((s + 511) / 512) := by
  unfold impl_count.f
  have e1 : wrap64 (s + 512) = s + 512 := by unfold wrap64; omega
  have e2 : wrap64 (s + 512 - 1) = s + 511 := by unfold wrap64; omega
  rw [e1, e2, Int.tdiv_eq_ediv_of_nonneg (by omega)]
  congr 1
  unfold wrap64
  omega
set_option maxHeartbeats 8000000 in
set_option maxRecDepth 100000 in
theorem impl_Root_right.calls (a0 : List Int) (n0 : a0.length = 15) (r : Bool) (w : World) (h : impl_Root_right.f a0 = some r) :
    Calls Tryd.prog 78 #[.agg (nums .i64 a0).toArray] w fun e w' => e = .returned (.bool r) ∧ Below w.heap.size w w' := by
  have H := Aside0.mk (Option.some.inj h)
  have N_ := Aside0.mk n0
  clear n0 h
  obtain ⟨s, hs⟩ : ∃ s, s = a0.getD 0 0 := ⟨_, rfl⟩
  have HS := Aside0.mk hs
  obtain ⟨x13, hx13⟩ : ∃ x, x = a0.getD 13 0 := ⟨_, rfl⟩
  have HX13 := Aside0.mk hx13
  obtain ⟨x14, hx14⟩ : ∃ x, x = a0.getD 14 0 := ⟨_, rfl⟩
  have HX14 := Aside0.mk hx14
  clear hs hx13 hx14
  obtain ⟨xs, hxs⟩ : ∃ xs, xs = seg a0 1 14 := ⟨_, rfl⟩
  have HP := Aside0.mk (show impl_Root_pointers.f a0 = some xs by rw [hxs]; exact if_pos N_.out)
  have HXL := Aside0.mk (show xs.length = 14 by rw [hxs]; exact part_len (n := 15) N_.out (by decide))
  have HXS := Aside0.mk hxs
  clear hxs
  have HB0 : Aside0 (Below w.heap.size w w) := ⟨Below.refl _ _⟩
  obtain ⟨s0, Sz0⟩ : ∃ s0, Aside0 (w.heap.size = s0) := ⟨_, ⟨rfl⟩⟩
  have hw0 : w.heap.size ≤ s0 := Nat.le_of_eq Sz0.out
  have hw1 : s0 ≤ w.heap.size := Nat.le_of_eq Sz0.out.symm
  by_cases c1 : 0 ≤ s ∧ s ≤ 262144
  case neg =>
    have HW := Aside0.mk ((impl_Root_right.within s 0 262144).trans (by rw [decide_eq_false c1]))
    have C1 := Aside0.mk c1
    clear c1
    go_enter Tryd.func78, Tryd.ntmps78
    go_wp2_with (first | ((with_reducible refine gate_dst (N := 1) rfl ?_); refine hx_box rfl 1 rfl 31 (.tmp 0) rfl Sz0 (.agg (nums .i64 a0).toArray) (nums .i64 a0).toArray rfl rfl ?_; intro w1 s1 L1 Sz1 b1 g_; have H0 := Aside0.mk g_; have HB1 := Aside0.mk (below_then HB0.out HB0.out.size b1); clear g_ HB0 b1; have c0_ := row_cell H0.out 0 (lt_len (n := 15) N_.out (by decide)); rw [← HS.out] at c0_) | (go_at_call 76; refine (impl_within.calls s 0 262144 false _ HW.out).mono ?_; rintro e_ w_ ⟨rfl, ⟨nd, rfl⟩⟩))
    go_ret
    refine ⟨?_, pw_below_drewN HB1.out _⟩
    have e_ : rootGood a0 = false := by
      by_cases c2 : a0.getD 0 0 < 0
      · exact rootGood_low c2
      · exact rootGood_high (by have := C1.out; rw [HS.out] at this; omega)
    rw [← H.out, e_]; rfl
  have HW := Aside0.mk ((impl_Root_right.within s 0 262144).trans (by rw [decide_eq_true c1]))
  have W1 : 0 ≤ s := c1.1
  have W2 : s ≤ 262144 := c1.2
  clear c1
  obtain ⟨bb, hbb⟩ : ∃ b, b = (s + 511) / 512 := ⟨_, rfl⟩
  have HC := Aside0.mk (show impl_count.f s = some bb by rw [hbb]; exact impl_Root_right.count s W1 W2)
  have HBB := Aside0.mk hbb
  have hbb1 : 0 ≤ bb := by omega
  have hbb2 : bb ≤ 1000 := by omega
  clear hbb
  go_enter Tryd.func78, Tryd.ntmps78
  go_wp2_with (first | ((with_reducible refine gate_dst (N := 1) rfl ?_); refine hx_box rfl 1 rfl 31 (.tmp 0) rfl Sz0 (.agg (nums .i64 a0).toArray) (nums .i64 a0).toArray rfl rfl ?_; intro w1 s1 L1 Sz1 b1 g_; have H0 := Aside0.mk g_; have HB1 := Aside0.mk (below_then HB0.out HB0.out.size b1); clear g_ HB0 b1; have c0_ := row_cell H0.out 0 (lt_len (n := 15) N_.out (by decide)); rw [← HS.out] at c0_) | (go_at_call 76; refine (impl_within.calls s 0 262144 true _ HW.out).mono ?_; rintro e_ w_ ⟨rfl, ⟨nd, rfl⟩⟩) | ((with_reducible refine gate_dst (N := 12) rfl ?_); refine hx_load rfl 31 (.tmp 1) rfl s0 15 rfl Tryd.underlying31 rfl (by kernel_rfl) (blk_drewN H0.out _) (nums_size _ _ _ N_.out) ?_) | ((with_reducible refine gate_dst (N := 13) rfl ?_); refine goesL_ (some 13) rfl rfl Tryd.func80 (by kernel_rfl) rfl #[.agg (nums .i64 a0).toArray] rfl (by (try simp only [List.map_toArray, List.map_cons, List.map_nil]); first | done | rfl) ?_; refine (impl_Root_pointers.calls a0 N_.out xs _ HP.out).mono ?_; rintro e_ w3 ⟨v0_, rfl, R_, b_⟩; obtain ⟨A21, c21, rfl⟩ := Kd.R_slice R_; refine ⟨_, rfl, ?_⟩; have O := Aside0.mk R_; have HB := Aside0.mk (below_then (pw_below_drewN HB1.out _) (pw_below_drewN HB1.out _).size b_); have H3 := Aside0.mk (blk_below (blk_drewN H0.out _) b_); clear R_ b_ HB1 H0 c0_))
  (try simp only [Act.put, List.setIfInBounds_toArray, List.set_cons_succ, List.set_cons_zero])
  go_loopw [15] (fun v15 wr => ∃ j : Nat, v15 = .int .i64 (j : Int) ∧ Aside0 (j ≤ 14) ∧ Aside0 (∀ i, i < j → ptrOk ((seg a0 1 14).getD i 0) = true) ∧ Drawn0 w3 wr) (fun v15 _ => 14 - (intOf v15).toNat)
  case atStart => exact ⟨0, rfl, ⟨by omega⟩, ⟨fun i hi => absurd hi (Nat.not_lt_zero i)⟩, Drawn0.refl _⟩
  case round =>
    obtain ⟨j, rfl, hj, hall, ⟨m2, rfl⟩⟩ := hrel
    by_cases c9 : j < 14
    · have c9b0 : decide ((j : Int) < (xs.length : Int)) = true := decide_eq_true (by rw [HXL.out]; omega)
      have c9b1 : decide (j < xs.length) = true := decide_eq_true (by rw [HXL.out]; omega)
      have p112 : 0 ≤ (j : Int) := by omega
      have q112 : (j : Int) < (xs.length : Int) := by rw [HXL.out]; omega
      obtain ⟨ad112, e112, hx112⟩ := Kd.at_int (Kd.C_drewN (Kd.R_reads' O.out).2.2 m2) (j : Int) p112 q112
      cases e112
      rw [Int.toNat_natCast] at hx112
      replace p112 := eq_true p112
      replace q112 := eq_true q112
      have q113 : (j < xs.length) = True := eq_true (by rw [HXL.out]; omega)
      obtain ⟨p, hp⟩ : ∃ p, p = rd xs (j : Int) := ⟨_, rfl⟩
      rw [← hp] at hx112
      have HPV := Aside0.mk (show p = (seg a0 1 14).getD j 0 by rw [hp, HXS.out, rd, Int.toNat_natCast])
      have C9 := Aside0.mk c9
      clear hp c9
      by_cases cq : ptrOk p = true
      · have HQ := Aside0.mk ((impl_Root_right.ptr p).trans (by rw [cq]))
        have CQ := Aside0.mk (show ptrOk ((seg a0 1 14).getD j 0) = true by rw [← HPV.out]; exact cq)
        clear cq
        go_wp2_with (first | (go_at_call 87; refine (impl_isPointer.calls p 2048 true _ HQ.out).mono ?_; rintro e_ w_ ⟨rfl, ⟨nd, rfl⟩⟩))
        go_roundw
        case rel =>
          refine ⟨j + 1, by rw [show wrap64 ((j : Int) + 1) = ((j + 1 : Nat) : Int) by (have := C9.out; unfold wrap64; omega)], ⟨by have := C9.out; omega⟩, ⟨fun i hi => ?_⟩, by repeat (first | exact Drawn0.refl _ | apply Drawn0.step)⟩
          by_cases hij : i = j
          · subst hij; exact CQ.out
          · exact hall.out i (by omega)
        case measure =>
          rw [show wrap64 ((j : Int) + 1) = ((j + 1 : Nat) : Int) by (have := C9.out; unfold wrap64; omega)]
          simp only [intOf, Int.toNat_natCast]
          have := C9.out
          omega
      · have cq2 : ptrOk p = false := by simpa using cq
        have HQ := Aside0.mk ((impl_Root_right.ptr p).trans (by rw [cq2]))
        have CQ := Aside0.mk cq2
        clear cq cq2
        go_wp2_with (first | (go_at_call 87; refine (impl_isPointer.calls p 2048 false _ HQ.out).mono ?_; rintro e_ w_ ⟨rfl, ⟨nd, rfl⟩⟩))
        go_ret
        refine ⟨?_, by first | exact pw_below_drewN HB.out _ | exact pw_below_drewN (pw_below_drewN HB.out _) _⟩
        have e_ : rootGood a0 = false := rootGood_bad j (by have := C9.out; omega) (by rw [ptrFits, ← HPV.out, CQ.out]; rfl)
        rw [← H.out, e_]; rfl
    · obtain rfl : j = 14 := by have := hj.out; omega
      have c9b0 : decide ((14 : Int) < (xs.length : Int)) = false := decide_eq_false (by rw [HXL.out]; decide)
      have c9b1 : decide (14 < xs.length) = false := decide_eq_false (by rw [HXL.out]; decide)
      have hp := hall
      have c0_ := row_cell (blk_drewN H3.out m2) 0 (lt_len (n := 15) N_.out (by decide))
      rw [← HS.out] at c0_
      clear hall hj
      go_wp2_with (first | (go_at_call 95; refine (impl_count.calls s bb _ HC.out).mono ?_; rintro e_ w_ ⟨rfl, ⟨nd, rfl⟩⟩) | ((with_reducible refine gate_dst (N := 27) rfl ?_); refine hx_loadp rfl 22 (.tmp 26) rfl s0 1 12 rfl Tryd.underlying22 rfl (by kernel_rfl) (blk_drewN H3.out _) (le_len (n := 15) N_.out (by decide)) ?_))
      (try simp only [Act.put, List.setIfInBounds_toArray, List.set_cons_succ, List.set_cons_zero])
      go_loopw [28] (fun v28 wr => ∃ j : Nat, v28 = .int .i64 (j : Int) ∧ Aside0 (j ≤ 12) ∧ Aside0 (∀ i, i < j → (seg a0 1 14).getD i 0 = 0 ∨ (i : Int) < (a0.getD 0 0 + 511) / 512) ∧ Drawn0 w3 wr) (fun v28 _ => 12 - (intOf v28).toNat)
      case atStart => exact ⟨0, rfl, ⟨by omega⟩, ⟨fun i hi => absurd hi (Nat.not_lt_zero i)⟩, by repeat (first | exact Drawn0.refl _ | apply Drawn0.step)⟩
      case round =>
        clear c0_ c9b0 c9b1 c9
        obtain ⟨j, rfl, hj, hall, ⟨m3, rfl⟩⟩ := hrel
        by_cases c9 : j < 12
        · have c9b0 : decide ((j : Int) < 12) = true := decide_eq_true (by omega)
          have c9b1 : decide (j < 12) = true := decide_eq_true c9
          obtain ⟨p, hp2⟩ : ∃ p, p = (seg a0 1 12).getD j 0 := ⟨_, rfl⟩
          have HPV := Aside0.mk hp2
          have HPV2 := Aside0.mk (show p = (seg a0 1 14).getD j 0 by rw [hp2, seg_getD _ _ _ _ c9, seg_getD _ _ _ _ (by omega)])
          have C9 := Aside0.mk c9
          clear hp2 c9
          by_cases cb : bb ≤ (j : Int)
          case neg =>
            have cb_ : decide (bb ≤ (j : Int)) = false := decide_eq_false cb
            have CB := Aside0.mk cb
            clear cb
            go_wp2_with (first | ((with_reducible refine gate_dst (N := 31) rfl ?_); refine hx_index rfl 22 3 12 (.tmp 27) (.tmp 28) rfl (seg a0 1 12) j _ rfl rfl Tryd.underlying22 Tryd.underlying3 rfl (by kernel_rfl) (part_len (n := 15) N_.out (by decide)) C9.out ?_; rw [← HPV.out]))
            go_roundw
            case rel =>
              refine ⟨j + 1, by rw [show wrap64 ((j : Int) + 1) = ((j + 1 : Nat) : Int) by (have := C9.out; unfold wrap64; omega)], ⟨by have := C9.out; omega⟩, ⟨fun i hi => ?_⟩, by repeat (first | exact Drawn0.refl _ | apply Drawn0.step)⟩
              by_cases hij : i = j
              · subst hij; exact by rw [← HPV2.out]; exact .inr (by rw [← HS.out]; have := HBB.out; have := CB.out; omega)
              · exact hall.out i (by omega)
            case measure =>
              rw [show wrap64 ((j : Int) + 1) = ((j + 1 : Nat) : Int) by (have := C9.out; unfold wrap64; omega)]
              simp only [intOf, Int.toNat_natCast]
              have := C9.out
              omega
          case pos =>
            have cb_ : decide (bb ≤ (j : Int)) = true := decide_eq_true cb
            have CB := Aside0.mk cb
            clear cb
            by_cases cz : p = 0
            · have cz_ : (p != 0) = false := bne_eq_false_iff_eq.mpr cz
              have CZ := Aside0.mk cz
              clear cz
              go_wp2_with (first | ((with_reducible refine gate_dst (N := 31) rfl ?_); refine hx_index rfl 22 3 12 (.tmp 27) (.tmp 28) rfl (seg a0 1 12) j _ rfl rfl Tryd.underlying22 Tryd.underlying3 rfl (by kernel_rfl) (part_len (n := 15) N_.out (by decide)) C9.out ?_; rw [← HPV.out]))
              go_roundw
              case rel =>
                refine ⟨j + 1, by rw [show wrap64 ((j : Int) + 1) = ((j + 1 : Nat) : Int) by (have := C9.out; unfold wrap64; omega)], ⟨by have := C9.out; omega⟩, ⟨fun i hi => ?_⟩, by repeat (first | exact Drawn0.refl _ | apply Drawn0.step)⟩
                by_cases hij : i = j
                · subst hij; exact by rw [← HPV2.out]; exact .inl CZ.out
                · exact hall.out i (by omega)
              case measure =>
                rw [show wrap64 ((j : Int) + 1) = ((j + 1 : Nat) : Int) by (have := C9.out; unfold wrap64; omega)]
                simp only [intOf, Int.toNat_natCast]
                have := C9.out
                omega
            · have cz_ : (p != 0) = true := bne_iff_ne.mpr cz
              have CZ := Aside0.mk cz
              clear cz
              go_wp2_with (first | ((with_reducible refine gate_dst (N := 31) rfl ?_); refine hx_index rfl 22 3 12 (.tmp 27) (.tmp 28) rfl (seg a0 1 12) j _ rfl rfl Tryd.underlying22 Tryd.underlying3 rfl (by kernel_rfl) (part_len (n := 15) N_.out (by decide)) C9.out ?_; rw [← HPV.out]))
              go_ret
              refine ⟨?_, by first | exact pw_below_drewN HB.out _ | exact pw_below_drewN (pw_below_drewN HB.out _) _⟩
              have e_ : rootGood a0 = false := rootGood_dir j C9.out (by rw [← HPV2.out]; exact CZ.out) (by rw [← HS.out]; have := HBB.out; have := CB.out; omega)
              rw [← H.out, e_]; rfl
        · obtain rfl : j = 12 := by have := hj.out; omega
          have c13_ := row_cell (blk_drewN H3.out m3) 13 (lt_len (n := 15) N_.out (by decide))
          have c14_ := row_cell (blk_drewN H3.out m3) 14 (lt_len (n := 15) N_.out (by decide))
          rw [← HX13.out] at c13_
          rw [← HX14.out] at c14_
          by_cases d1 : 12 < bb
          · have d1_ : decide (12 < bb) = true := decide_eq_true d1
            have D1 := Aside0.mk d1
            clear d1
            by_cases d3 : 140 < bb
            · have d3_ : decide (140 < bb) = true := decide_eq_true d3
              have D3 := Aside0.mk d3
              clear d3
              go_wp2
              go_ret
              refine ⟨?_, by first | exact pw_below_drewN HB.out _ | exact pw_below_drewN (pw_below_drewN HB.out _) _⟩
              have e_ : rootGood a0 = true := rootGood_end (by rw [← HS.out]; exact W1) (by rw [← HS.out]; exact W2) hp.out hall.out (.inr (by rw [← HS.out]; have := HBB.out; have := D1.out; omega)) (.inr (by rw [← HS.out]; have := HBB.out; have := D3.out; omega))
              rw [← H.out, e_]; rfl
            · have d3_ : decide (140 < bb) = false := decide_eq_false d3
              have D3 := Aside0.mk d3
              clear d3
              by_cases d4 : x14 = 0
              · have d4_ : (x14 == 0) = true := beq_iff_eq.mpr d4
                have D4 := Aside0.mk d4
                clear d4
                go_wp2
                go_ret
                refine ⟨?_, by first | exact pw_below_drewN HB.out _ | exact pw_below_drewN (pw_below_drewN HB.out _) _⟩
                have e_ : rootGood a0 = true := rootGood_end (by rw [← HS.out]; exact W1) (by rw [← HS.out]; exact W2) hp.out hall.out (.inr (by rw [← HS.out]; have := HBB.out; have := D1.out; omega)) (.inl (by rw [← HX14.out]; exact D4.out))
                rw [← H.out, e_]; rfl
              · have d4_ : (x14 == 0) = false := beq_eq_false_iff_ne.mpr d4
                have D4 := Aside0.mk d4
                clear d4
                go_wp2
                go_ret
                refine ⟨?_, by first | exact pw_below_drewN HB.out _ | exact pw_below_drewN (pw_below_drewN HB.out _) _⟩
                have e_ : rootGood a0 = false := rootGood_13 (by rw [← HX14.out]; exact D4.out) (by rw [← HS.out]; have := HBB.out; have := D3.out; omega)
                rw [← H.out, e_]; rfl
          · have d1_ : decide (12 < bb) = false := decide_eq_false d1
            have D1 := Aside0.mk d1
            clear d1
            by_cases d2 : x13 = 0
            · have d2_ : (x13 == 0) = true := beq_iff_eq.mpr d2
              have D2 := Aside0.mk d2
              clear d2
              by_cases d3 : 140 < bb
              · have d3_ : decide (140 < bb) = true := decide_eq_true d3
                have D3 := Aside0.mk d3
                clear d3
                go_wp2
                go_ret
                refine ⟨?_, by first | exact pw_below_drewN HB.out _ | exact pw_below_drewN (pw_below_drewN HB.out _) _⟩
                have e_ : rootGood a0 = true := rootGood_end (by rw [← HS.out]; exact W1) (by rw [← HS.out]; exact W2) hp.out hall.out (.inl (by rw [← HX13.out]; exact D2.out)) (.inr (by rw [← HS.out]; have := HBB.out; have := D3.out; omega))
                rw [← H.out, e_]; rfl
              · have d3_ : decide (140 < bb) = false := decide_eq_false d3
                have D3 := Aside0.mk d3
                clear d3
                by_cases d4 : x14 = 0
                · have d4_ : (x14 == 0) = true := beq_iff_eq.mpr d4
                  have D4 := Aside0.mk d4
                  clear d4
                  go_wp2
                  go_ret
                  refine ⟨?_, by first | exact pw_below_drewN HB.out _ | exact pw_below_drewN (pw_below_drewN HB.out _) _⟩
                  have e_ : rootGood a0 = true := rootGood_end (by rw [← HS.out]; exact W1) (by rw [← HS.out]; exact W2) hp.out hall.out (.inl (by rw [← HX13.out]; exact D2.out)) (.inl (by rw [← HX14.out]; exact D4.out))
                  rw [← H.out, e_]; rfl
                · have d4_ : (x14 == 0) = false := beq_eq_false_iff_ne.mpr d4
                  have D4 := Aside0.mk d4
                  clear d4
                  go_wp2
                  go_ret
                  refine ⟨?_, by first | exact pw_below_drewN HB.out _ | exact pw_below_drewN (pw_below_drewN HB.out _) _⟩
                  have e_ : rootGood a0 = false := rootGood_13 (by rw [← HX14.out]; exact D4.out) (by rw [← HS.out]; have := HBB.out; have := D3.out; omega)
                  rw [← H.out, e_]; rfl
            · have d2_ : (x13 == 0) = false := beq_eq_false_iff_ne.mpr d2
              have D2 := Aside0.mk d2
              clear d2
              go_wp2
              go_ret
              refine ⟨?_, by first | exact pw_below_drewN HB.out _ | exact pw_below_drewN (pw_below_drewN HB.out _) _⟩
              have e_ : rootGood a0 = false := rootGood_12 (by rw [← HX13.out]; exact D2.out) (by rw [← HS.out]; have := HBB.out; have := D1.out; omega)
              rw [← H.out, e_]; rfl

/-! ### impl_tableSize: function 79 -/
def impl_tableSize.f (a0 : Int) : Option (Bool) := if a0 ≥ 256 then (if (Int.tmod a0 128) = 0 then (some (decide (a0 ≤ 128128))) else (some false)) else (some false)
set_option maxHeartbeats 8000000 in
set_option maxRecDepth 100000 in
theorem impl_tableSize.calls (a0 : Int) (r : Bool) (w : World) (h : impl_tableSize.f a0 = some r) :
    Calls Tryd.prog 79 #[.int .i64 a0] w fun e w' => e = .returned (.bool r) ∧ Drawn0 w w' := by
  have H : (if a0 ≥ 256 then (if (Int.tmod a0 128) = 0 then (some (decide (a0 ≤ 128128))) else (some false)) else (some false)) = some r := h
  clear h
  by_cases c2 : a0 ≥ 256
  · rw [if_pos c2] at H
    have c2b0 : decide (256 ≤ a0) = true := decide_eq_true c2
    clear c2
    by_cases c3 : (Int.tmod a0 128) = 0
    · rw [if_pos c3] at H
      have c3b0 : ((Int.tmod a0 128) == 0) = true := beq_iff_eq.mpr c3
      have c3b1 : ((Int.tmod a0 128) != 0) = false := bne_eq_false_iff_eq.mpr c3
      clear c3
      obtain rfl := Option.some.inj H
      go_enter Tryd.func79, Tryd.ntmps79
      go_wp2
      go_ret
      exact ⟨by first | rfl | (simp; done) | (simp [*]; done), by repeat (first | exact Drawn0.refl _ | apply Drawn0.step)⟩
    · rw [if_neg c3] at H
      have c3b0 : ((Int.tmod a0 128) == 0) = false := beq_eq_false_iff_ne.mpr c3
      have c3b1 : ((Int.tmod a0 128) != 0) = true := bne_iff_ne.mpr c3
      obtain rfl := Option.some.inj H
      go_enter Tryd.func79, Tryd.ntmps79
      go_wp2
      go_ret
      exact ⟨by first | rfl | (simp; done) | (simp [*]; done), by repeat (first | exact Drawn0.refl _ | apply Drawn0.step)⟩
  · rw [if_neg c2] at H
    have c2b0 : decide (256 ≤ a0) = false := decide_eq_false c2
    clear c2
    obtain rfl := Option.some.inj H
    go_enter Tryd.func79, Tryd.ntmps79
    go_wp2
    go_ret
    exact ⟨by first | rfl | (simp; done) | (simp [*]; done), by repeat (first | exact Drawn0.refl _ | apply Drawn0.step)⟩

open Go.Proofs.YtkghgjehjchajaaDoorW Go.Proofs.YtkghgjehjchajaaDoorW.PrintHand Go.Proofs.YtkghgjehjchajaaDoorW.PrintHx
/-! ### impl_Snap_right: function 47 -/
open Go.Proofs.YtkghgjehjchajaaDoorW.PrintLe Go.Proofs.YtkghgjehjchajaaDoorW.PrintGrow Go.Proofs.YtkghgjehjchajaaDoorW.PrintDec Go.Proofs.YtkghgjehjchajaaDoorW.PrintIno Go.Proofs.YtkghgjehjchajaaDoorW.PrintTab2 Go.Proofs.YtkghgjehjchajaaDoorW.PrintTab3 Go.Proofs.YtkghgjehjchajaaDoorW.PrintFsi Go.Proofs.YtkghgjehjchajaaDoorW.PrintFsb Go.Proofs.YtkghgjehjchajaaDoorW.PrintFsd Go.Proofs.YtkghgjehjchajaaDoorW.PrintCrc Go.Proofs.YtkghgjehjchajaaDoorW.PrintSnp
def impl_Snap_right.f (x c p q : Int) (r : List Int) : Option Bool := some (snapGood x c p q r)
set_option maxHeartbeats 8000000 in
set_option maxRecDepth 100000 in
theorem impl_Snap_right.calls (x : Int) (s : ByteArray) (p q : Int) (r : List Int) (nr : r.length = 15) (k : Nat) (c : Int) (hc : impl_CheckName.f k s = some c) (b : Bool) (w : World) (h : impl_Snap_right.f x c p q r = some b) :
    Calls Tryd.prog 47 #[.agg (snapC x s p q r).toArray] w fun e w' => e = .returned (.bool b) ∧ Below w.heap.size w w' := by
  have H := Aside0.mk (Option.some.inj h)
  clear h
  have NR := Aside0.mk nr
  have WC := Aside0.mk hc
  clear nr hc
  obtain ⟨y0, hy0⟩ : ∃ y, y = r.getD 0 0 := ⟨_, rfl⟩
  obtain ⟨b0, hb0⟩ : ∃ b, b = rng x 1 31 := ⟨_, rfl⟩
  have Wb0 := Aside0.mk (show impl_within.f x 1 31 = some b0 by rw [hb0]; exact within_i _ _ _)
  obtain ⟨b2, hb2⟩ : ∃ b, b = rng p 1 1099511627776 := ⟨_, rfl⟩
  have Wb2 := Aside0.mk (show impl_within.f p 1 1099511627776 = some b2 by rw [hb2]; exact within_i _ _ _)
  obtain ⟨b3, hb3⟩ : ∃ b, b = rng q 1 1099511627776 := ⟨_, rfl⟩
  have Wb3 := Aside0.mk (show impl_within.f q 1 1099511627776 = some b3 by rw [hb3]; exact within_i _ _ _)
  obtain ⟨b4, hb4⟩ : ∃ b, b = rootGood r := ⟨_, rfl⟩
  have Wb4 := Aside0.mk (show impl_Root_right.f r = some b4 by rw [hb4]; rfl)
  obtain ⟨b5, hb5⟩ : ∃ b, b = sizeI y0 := ⟨_, rfl⟩
  have Wb5 := Aside0.mk (show impl_tableSize.f y0 = some b5 by rw [hb5]; exact size_i _)
  obtain ⟨b1, hb1⟩ : ∃ b, b = decide (c = 0) := ⟨_, rfl⟩
  have HIN := Aside0.mk (show snapGood x c p q r = (b0 && (b1 && (b2 && (b3 && (b4 && b5))))) by rw [hb0, hb1, hb2, hb3, hb4, hb5, hy0]; rfl)
  have HY0 := Aside0.mk hy0
  have HB1_ := Aside0.mk (show (c == 0) = b1 by rw [hb1]; rfl)
  clear hb0 hb1 hb2 hb3 hb4 hb5 hy0
  have HB0 : Aside0 (Below w.heap.size w w) := ⟨Below.refl _ _⟩
  obtain ⟨s0, Sz0⟩ : ∃ s0, Aside0 (w.heap.size = s0) := ⟨_, ⟨rfl⟩⟩
  have hw0 : w.heap.size ≤ s0 := Nat.le_of_eq Sz0.out
  have hw1 : s0 ≤ w.heap.size := Nat.le_of_eq Sz0.out.symm
  go_enter Tryd.func47, Tryd.ntmps47
  go_wp2_with (first | ((with_reducible refine gate_dst (N := 1) rfl ?_); refine hx_box rfl 1 rfl 33 (.tmp 0) rfl Sz0 (.agg (snapC x s p q r).toArray) (snapC x s p q r).toArray rfl (by simp [Value.cells]) ?_; intro w1 s1 L1 Sz1 b1_ g_; have H1 := Aside0.mk g_; have HB := Aside0.mk (below_then HB0.out HB0.out.size b1_); clear g_ HB0 b1_) | ((with_reducible refine gate_dst (N := 4) rfl ?_); refine wpList_ld1 rfl 3 (.tmp 3) rfl s0 0 rfl (.int .i64 x) Tryd.underlying3 rfl H1.out rfl ?_) | ((with_reducible refine gate_dst (N := 5) rfl ?_); refine goesL_ (some 5) rfl rfl Tryd.func76 (by kernel_rfl) rfl #[.int .i64 x, .int .i64 1, .int .i64 31] rfl (by (try simp only [List.map_toArray, List.map_cons, List.map_nil]); first | done | rfl) ?_; refine (impl_within.calls x 1 31 b0 _ Wb0.out).mono ?_; rintro e_ w_ ⟨rfl, d_⟩; have b_ := kept_drawn d_; refine ⟨_, rfl, ?_⟩; have Hn := Aside0.mk (blk_below H1.out b_); have HBn := Aside0.mk (below_then HB.out HB.out.size b_); clear b_ d_ H1 HB; have H1 := Hn; have HB := HBn; clear Hn HBn; cases b0) | ((with_reducible refine gate_dst (N := 8) rfl ?_); refine Go.Proofs.YtkghgjehjchajaaDoorW.PrintTab2.ungd (by rfl) ?_; refine wpList_ld1 rfl 9 (.tmp 7) rfl s0 1 rfl (.string s) Tryd.underlying9 rfl H1.out rfl ?_) | ((with_reducible refine gate_dst (N := 9) rfl ?_); refine Go.Proofs.YtkghgjehjchajaaDoorW.PrintTab2.ungd (by rfl) ?_; refine goesL_ (some 9) rfl rfl Tryd.func77 (by kernel_rfl) rfl #[.string s] rfl (by (try simp only [List.map_toArray, List.map_cons, List.map_nil]); first | done | rfl) ?_; refine (impl_CheckName.calls k s c _ WC.out).mono ?_; rintro e_ w_ ⟨rfl, d_⟩; have b_ := d_; refine ⟨_, rfl, ?_⟩; have Hn := Aside0.mk (blk_below H1.out b_); have HBn := Aside0.mk (below_then HB.out HB.out.size b_); clear b_ d_ H1 HB; have H1 := Hn; have HB := HBn; clear Hn HBn) | ((with_reducible refine gate_dst (N := 10) rfl ?_); refine Go.Proofs.YtkghgjehjchajaaDoorW.PrintTab2.ungd (by rfl) ?_; refine hx_eqi rfl 3 3 (.tmp 9) _ rfl Tryd.underlying3 c 0 rfl rfl b1 HB1_ ?_; cases b1) | ((with_reducible refine gate_dst (N := 14) rfl ?_); refine Go.Proofs.YtkghgjehjchajaaDoorW.PrintTab2.ungd (by rfl) ?_; refine wpList_ld1 rfl 3 (.tmp 13) rfl s0 2 rfl (.int .i64 p) Tryd.underlying3 rfl H1.out rfl ?_) | ((with_reducible refine gate_dst (N := 15) rfl ?_); refine Go.Proofs.YtkghgjehjchajaaDoorW.PrintTab2.ungd (by rfl) ?_; refine goesL_ (some 15) rfl rfl Tryd.func76 (by kernel_rfl) rfl #[.int .i64 p, .int .i64 1, .int .i64 1099511627776] rfl (by (try simp only [List.map_toArray, List.map_cons, List.map_nil]); first | done | rfl) ?_; refine (impl_within.calls p 1 1099511627776 b2 _ Wb2.out).mono ?_; rintro e_ w_ ⟨rfl, d_⟩; have b_ := kept_drawn d_; refine ⟨_, rfl, ?_⟩; have Hn := Aside0.mk (blk_below H1.out b_); have HBn := Aside0.mk (below_then HB.out HB.out.size b_); clear b_ d_ H1 HB; have H1 := Hn; have HB := HBn; clear Hn HBn; cases b2) | ((with_reducible refine gate_dst (N := 19) rfl ?_); refine Go.Proofs.YtkghgjehjchajaaDoorW.PrintTab2.ungd (by rfl) ?_; refine wpList_ld1 rfl 3 (.tmp 18) rfl s0 3 rfl (.int .i64 q) Tryd.underlying3 rfl H1.out rfl ?_) | ((with_reducible refine gate_dst (N := 20) rfl ?_); refine Go.Proofs.YtkghgjehjchajaaDoorW.PrintTab2.ungd (by rfl) ?_; refine goesL_ (some 20) rfl rfl Tryd.func76 (by kernel_rfl) rfl #[.int .i64 q, .int .i64 1, .int .i64 1099511627776] rfl (by (try simp only [List.map_toArray, List.map_cons, List.map_nil]); first | done | rfl) ?_; refine (impl_within.calls q 1 1099511627776 b3 _ Wb3.out).mono ?_; rintro e_ w_ ⟨rfl, d_⟩; have b_ := kept_drawn d_; refine ⟨_, rfl, ?_⟩; have Hn := Aside0.mk (blk_below H1.out b_); have HBn := Aside0.mk (below_then HB.out HB.out.size b_); clear b_ d_ H1 HB; have H1 := Hn; have HB := HBn; clear Hn HBn; cases b3) | ((with_reducible refine gate_dst (N := 24) rfl ?_); refine Go.Proofs.YtkghgjehjchajaaDoorW.PrintTab2.ungd (by rfl) ?_; refine wpList_ld rfl 31 (.tmp 23) rfl s0 4 15 rfl (nums .i64 r).toArray Tryd.underlying31 rfl (by kernel_rfl) H1.out (by rw [snapC_size NR.out]; decide) (snapC_root NR.out) ?_) | ((with_reducible refine gate_dst (N := 25) rfl ?_); refine Go.Proofs.YtkghgjehjchajaaDoorW.PrintTab2.ungd (by rfl) ?_; refine goesL_ (some 25) rfl rfl Tryd.func78 (by kernel_rfl) rfl #[.agg (nums .i64 r).toArray] rfl (by (try simp only [List.map_toArray, List.map_cons, List.map_nil]); first | done | rfl) ?_; refine (impl_Root_right.calls r NR.out b4 _ Wb4.out).mono ?_; rintro e_ w_ ⟨rfl, d_⟩; have b_ := d_; refine ⟨_, rfl, ?_⟩; have Hn := Aside0.mk (blk_below H1.out b_); have HBn := Aside0.mk (below_then HB.out HB.out.size b_); clear b_ d_ H1 HB; have H1 := Hn; have HB := HBn; clear Hn HBn; cases b4) | ((with_reducible refine gate_dst (N := 30) rfl ?_); refine Go.Proofs.YtkghgjehjchajaaDoorW.PrintTab2.ungd (by rfl) ?_; refine wpList_ld1 rfl 3 (.tmp 29) rfl s0 4 rfl (.int .i64 y0) Tryd.underlying3 rfl H1.out (by rw [HY0.out]; exact snapC_at4 NR.out) ?_) | ((with_reducible refine gate_dst (N := 31) rfl ?_); refine Go.Proofs.YtkghgjehjchajaaDoorW.PrintTab2.ungd (by rfl) ?_; refine goesL_ (some 31) rfl rfl Tryd.func79 (by kernel_rfl) rfl #[.int .i64 y0] rfl (by (try simp only [List.map_toArray, List.map_cons, List.map_nil]); first | done | rfl) ?_; refine (impl_tableSize.calls y0 b5 _ Wb5.out).mono ?_; rintro e_ w_ ⟨rfl, d_⟩; have b_ := kept_drawn d_; refine ⟨_, rfl, ?_⟩; have Hn := Aside0.mk (blk_below H1.out b_); have HBn := Aside0.mk (below_then HB.out HB.out.size b_); clear b_ d_ H1 HB; have H1 := Hn; have HB := HBn; clear Hn HBn; cases b5))
  all_goals (go_ret; exact ⟨by rw [← H.out, HIN.out]; rfl, HB.out⟩)

/-! ### impl_put_int: function 48 -/
def impl_put_int.l0 : Nat → List Int → Int → Int → Int → Int → Option (List Int)
  | 0, _, _, _, _, _ => none
  | k + 1, x0, x1, x3, x9, x10 => if x10 < x9 then (if 0 ≤ (wrap64 (8 * x10)) then (if 0 ≤ (wrap64 (x1 + x10)) then (if (wrap64 (x1 + x10)) < (x0.length : Int) then (impl_put_int.l0 k (x0.set ((wrap64 (x1 + x10)) : Int).toNat ((shr .u64 (IntKind.u64.wrap (x3)) (wrap64 (8 * x10))) % 256)) x1 x3 x9 (wrap64 (x10 + 1))) else (none)) else (none)) else (none)) else (some x0)
def impl_put_int.f (k : Nat) (l0 : List Int) (a1 : Int) (a2 : Int) (a3 : Int) : Option (List Int) := impl_put_int.l0 k l0 a1 a3 a2 0
theorem impl_put_int.mono_l : ∀ k, (∀ y0 y1 y2 y3 y4, LeO (impl_put_int.l0 k y0 y1 y2 y3 y4) (impl_put_int.l0 (k + 1) y0 y1 y2 y3 y4))
  | 0 => fun _ _ _ _ _ r h => by simp [impl_put_int.l0] at h
  | k + 1 => by
    have ih0 := impl_put_int.mono_l k
    · intro y0 y1 y2 y3 y4
      unfold impl_put_int.l0
      repeat' first
      | (with_reducible exact ih0 _ _ _ _ _)
      | (with_reducible exact LeO.refl _)
      | (with_reducible exact LeO.none _)
      | (with_reducible refine LeO.ite ?_ ?_)
      | (with_reducible refine LeO.bind ?_ (fun _ => ?_))
      | exact ih0 _ _ _ _ _
      | exact LeO.none _
      | refine LeO.ite ?_ ?_
      | refine LeO.bind ?_ (fun _ => ?_)
theorem impl_put_int.mono : ∀ a0 a1 a2 a3 k, LeO (impl_put_int.f k a0 a1 a2 a3) (impl_put_int.f (k + 1) a0 a1 a2 a3) := by
  intro a0 a1 a2 a3 k
  have ih0 := impl_put_int.mono_l k
  unfold impl_put_int.f
  repeat' first
      | (with_reducible exact ih0 _ _ _ _ _)
      | (with_reducible exact LeO.refl _)
      | (with_reducible exact LeO.none _)
      | (with_reducible refine LeO.ite ?_ ?_)
      | (with_reducible refine LeO.bind ?_ (fun _ => ?_))
      | exact ih0 _ _ _ _ _
      | exact LeO.none _
      | refine LeO.ite ?_ ?_
      | refine LeO.bind ?_ (fun _ => ?_)
set_option maxHeartbeats 8000000 in
set_option maxRecDepth 100000 in
theorem impl_put_int.calls (k : Nat) (P0_ : Nat → Prop) (u9000_ : Value) (l0 : List Int) (a1 : Int) (a2 : Int) (a3 : Int) (r : List Int) (w0 w : World) (hB : Below w0.heap.size w0 w) (ho0 : Kd.R (Kd.int .u8) 5 w w0.heap.size P0_ u9000_ l0) (h : impl_put_int.f k l0 a1 a2 a3 = some r) :
    Calls Tryd.prog 48 #[u9000_, .int .i64 a1, .int .i64 a2, .int .i64 a3] w fun e w' => e = .returned (.tuple #[]) ∧ Kd.R (Kd.int .u8) 5 w' w0.heap.size (fun k_ => (P0_ k_ ∨ w.heap.size ≤ k_)) u9000_ r ∧ Below w0.heap.size w0 w' ∧ Kept w w' (fun k_ => P0_ k_) := by
  have HO0 := Aside0.mk (show Kd.R (Kd.int .u8) 5 w w0.heap.size (fun k_ => (P0_ k_ ∨ w.heap.size ≤ k_)) u9000_ l0 from Kd.R_mono ho0 (fun k_ hk => (.inl hk)))
  have HK := Aside0.mk (Kept.refl w (fun k_ => P0_ k_))
  have HW0 := Aside0.mk hB.size
  have HB := Aside0.mk hB
  clear hB
  have H : (impl_put_int.l0 k l0 a1 a3 a2 0) = some r := h
  clear h
  have H' := Aside0.mk H
  clear H
  go_enter Tryd.func48, Tryd.ntmps48
  go_wp2
  go_loopg [10] k (fun kq v10 w' => ∃ (x0_1 : List Int) (x10_1 : Int), v10 = .int .i64 x10_1 ∧ Aside0 (impl_put_int.l0 kq x0_1 a1 a3 a2 x10_1 = some r) ∧ Aside0 (kq ≤ k) ∧ Aside0 (Kd.R (Kd.int .u8) 5 w' w0.heap.size (fun k_ => (P0_ k_ ∨ w.heap.size ≤ k_)) u9000_ x0_1) ∧ Aside0 (Kept w w' (fun k_ => P0_ k_)) ∧ Aside0 (Below w0.heap.size w0 w'))
  case atStart => exact ⟨(l0), (0), (by first | rfl | (simp; done) | (simp [*]; done)), H', ⟨Nat.le_refl _⟩, ⟨by (with_reducible repeat (first | apply Kd.R_alloc | apply Kd.R_drewN | apply Kd.R_drew)); exact HO0.out⟩, ⟨by repeat (first | (with_reducible first | exact HK.out | apply Kept.alloc | apply Kept.drewN | apply Kept.drew) | exact HK.out)⟩, ⟨by repeat (first | (with_reducible first | exact HB.out | apply below_alloc | apply pw_below_drewN | apply below_drew1) | exact HB.out)⟩⟩
  case round =>
    clear H'
    try clear p2
    try clear c4
    obtain ⟨x0_1, x10_1, rfl, HA, HK1, HO_0, HK, HB⟩ := hrel
    cases gk with
    | zero => exact absurd HA.out (by simp [impl_put_int.l0])
    | succ k1 =>
      have H := HA.out
      clear HA
      simp only [impl_put_int.l0] at H
      by_cases c5 : x10_1 < a2
      · rw [if_pos c5] at H
        have c5b0 : decide (x10_1 < a2) = true := decide_eq_true c5
        clear c5
        obtain ⟨ji6, hji6⟩ : ∃ j_ : Int, (wrap64 (8 * x10_1)) = j_ := ⟨_, rfl⟩
        replace H : (if 0 ≤ (ji6) then (if 0 ≤ (wrap64 (a1 + x10_1)) then (if (wrap64 (a1 + x10_1)) < (x0_1.length : Int) then (impl_put_int.l0 k1 (x0_1.set ((wrap64 (a1 + x10_1)) : Int).toNat ((shr .u64 (IntKind.u64.wrap (a3)) (ji6)) % 256)) a1 a3 a2 (wrap64 (x10_1 + 1))) else (none)) else (none)) else (none)) = some r := by first | (rw [hji6] at H; exact H) | (simp only [hji6] at H ⊢; exact H)
        have hji6w : (IntKind.i64.wrap (8 * x10_1)) = ji6 := (i64_w _).trans hji6
        by_cases c7 : 0 ≤ (ji6)
        · rw [if_pos c7] at H
          have c7b0 := eq_true c7
          have c7b1 : decide (0 ≤ (ji6)) = true := decide_eq_true c7
          clear c7
          obtain ⟨ji8, hji8⟩ : ∃ j_ : Int, (shr .u64 (IntKind.u64.wrap (a3)) (ji6)) = j_ := ⟨_, rfl⟩
          replace H : (if 0 ≤ (wrap64 (a1 + x10_1)) then (if (wrap64 (a1 + x10_1)) < (x0_1.length : Int) then (impl_put_int.l0 k1 (x0_1.set ((wrap64 (a1 + x10_1)) : Int).toNat ((ji8) % 256)) a1 a3 a2 (wrap64 (x10_1 + 1))) else (none)) else (none)) = some r := by first | (rw [hji8] at H; exact H) | (simp only [hji8] at H ⊢; exact H)
          have hji8_ : ((IntKind.u64.wrap (a3)) / 2 ^ min (ji6).toNat 64) = ji8 := hji8
          have hji8z : (ji6) ≤ 64 → ((IntKind.u64.wrap (a3)) / 2 ^ (ji6).toNat) = ji8 := shr_small hji8
          obtain ⟨ji9, hji9⟩ : ∃ j_ : Int, (wrap64 (a1 + x10_1)) = j_ := ⟨_, rfl⟩
          replace H : (if 0 ≤ (ji9) then (if (ji9) < (x0_1.length : Int) then (impl_put_int.l0 k1 (x0_1.set ((ji9) : Int).toNat ((ji8) % 256)) a1 a3 a2 (wrap64 (x10_1 + 1))) else (none)) else (none)) = some r := by first | (rw [hji9] at H; exact H) | (simp only [hji9] at H ⊢; exact H)
          have hji9w : (IntKind.i64.wrap (a1 + x10_1)) = ji9 := (i64_w _).trans hji9
          by_cases c10 : 0 ≤ (ji9)
          · rw [if_pos c10] at H
            have c10b0 : decide (0 ≤ (ji9)) = true := decide_eq_true c10
            clear c10
            by_cases c11 : (ji9) < (x0_1.length : Int)
            · rw [if_pos c11] at H
              have c11b0 : decide ((ji9) < (x0_1.length : Int)) = true := decide_eq_true c11
              clear c11
              obtain ⟨y136, hy136⟩ : ∃ y_ : List Int, y_ = (x0_1.set ((ji9) : Int).toNat ((ji8) % 256)) := ⟨_, rfl⟩
              replace H : (impl_put_int.l0 k1 y136 a1 a3 a2 (wrap64 (x10_1 + 1))) = some r := by first | (rw [hy136]; with_reducible exact H) | (have H2_ := (Option.bind_some _ _).symm.trans H; rw [hy136]; with_reducible exact H2_) | (have H2_ := (Option.bind_some _ _).symm.trans H; with_reducible exact H2_) | with_reducible exact H | (rw [hy136]; exact H) | exact H
              have Ny136 := Aside0.mk hy136
              clear hy136
              have H' := Aside0.mk H
              clear H
              have p12 : 0 ≤ ((ji9) : Int) := of_decide_eq_true (by first | (with_reducible assumption) | assumption)
              have q12 : ((ji9) : Int) < ((x0_1.length : Int) : Int) := of_decide_eq_true (by first | (with_reducible assumption) | assumption)
              obtain ⟨go12, co12, eo12, gb12, gl12, cl12, HG12⟩ := Kd.R_form HO_0.out (by omega)
              (first | cases eo12 | (injection eo12 with ea_ en_ ec_; (first | subst ea_ | (injection ea_ with ea_; subst ea_)); subst ec_; clear en_))
              have GB12 := Aside0.mk gb12
              have GG12 := Aside0.mk HG12
              clear gb12 gl12 HG12
              have HMgo12 := Aside0.mk (show (P0_ go12 ∨ w.heap.size ≤ go12) from (HO_0.out.1 _ rfl))
              obtain ⟨hx12_0, hf12_0⟩ := Kd.R_celln 0 HO_0.out ((ji9) : Int) p12 q12
              replace p12 := eq_true p12
              replace q12 := eq_true q12
              have HP13 := Kd.R_putg HO_0.out ((ji9) : Int) ((ji8) % 256)
              go_wp2_with (first | ((with_reducible refine gate_store (t := 5) (p := 23) rfl ?_); refine store_event (t := 5) (p := 23) (v := ?vo_w14) (w1 := (wr.setCell ⟨go12, ((ji9) : Int).toNat, none⟩ (.int .u8 ((ji8) % 256)))) ?hg ?ho ?hn ?hr ?_; (case ho => rfl); (case hg => rfl); (case hn => rfl); (case hr => first | (go_simp; done) | (go_simp; rfl)); intro w14 hw; have hg : wr.grownBy w14 (some go12) := (by rw [hw]; exact HP13.2); have hp_ : Kd.R (Kd.int .u8) 5 w14 w0.heap.size (fun k_ => (P0_ k_ ∨ w.heap.size ≤ k_)) (.slice (some ⟨go12, 0, none⟩) x0_1.length co12) y136 := (by rw [hw, Ny136.out]; exact HP13.1); clear HP13; have n0_ := Aside0.mk (hp_); have n1_ := Aside0.mk ((by rw [hw]; exact below_set (HB.out) GB12.out : Below w0.heap.size w0 w14)); have n2_ := Aside0.mk (Kept.of_grown (S := (fun k_ => P0_ k_)) hg (by repeat (first | (with_reducible first | exact HK.out | apply Kept.alloc | apply Kept.drewN | apply Kept.drew) | exact HK.out)) (fun k_ e_ => (HO_0.out.1 k_ e_))); clear HO_0; clear HB; clear HK; have HO_0 := n0_; have HB := n1_; have HK := n2_; clear n0_ n1_ n2_; clear hg hw hp_))
              go_roundg k1
              case measure => have := HK1.out; omega
              case rel => exact ⟨(y136), (wrap64 (x10_1 + 1)), (by first | rfl | (simp; done) | (simp [*]; done)), H', ⟨by have := HK1.out; omega⟩, ⟨by (with_reducible repeat (first | apply Kd.R_alloc | apply Kd.R_drewN | apply Kd.R_drew)); exact HO_0.out⟩, ⟨by repeat (first | (with_reducible first | exact HK.out | apply Kept.alloc | apply Kept.drewN | apply Kept.drew) | exact HK.out)⟩, ⟨by repeat (first | (with_reducible first | exact HB.out | apply below_alloc | apply pw_below_drewN | apply below_drew1) | exact HB.out)⟩⟩
            · rw [if_neg c11] at H
              exact absurd H (by simp)
          · rw [if_neg c10] at H
            exact absurd H (by simp)
        · rw [if_neg c7] at H
          exact absurd H (by simp)
      · rw [if_neg c5] at H
        have c5b0 : decide (x10_1 < a2) = false := decide_eq_false c5
        clear c5
        obtain rfl := Option.some.inj H
        go_wp2
        first | go_end0 | ((try simp only [Exit.inBlock, Exit.then]); refine bodyPost_ret (results_none rfl _ _ _) rfl ?_)
        exact ⟨by first | rfl | (simp [errW_none, errW_some] <;> rfl) | (simp [*, errW_none, errW_some] <;> rfl), by (with_reducible repeat (first | apply Kd.R_alloc | apply Kd.R_drewN | apply Kd.R_drew)); exact HO_0.out, by repeat (first | (with_reducible first | exact HB.out | apply below_alloc | apply pw_below_drewN | apply below_drew1) | exact HB.out), by repeat (first | (with_reducible first | exact HK.out | apply Kept.alloc | apply Kept.drewN | apply Kept.drew) | exact HK.out)⟩

open Go.Proofs.YtkghgjehjchajaaDoorW Go.Proofs.YtkghgjehjchajaaDoorW.PrintHand Go.Proofs.YtkghgjehjchajaaDoorW.PrintHx
/-! ### impl_Root_put: function 49 -/
open Go.Proofs.YtkghgjehjchajaaDoorW.PrintLe
theorem put_l0 (v : Int) (at_ size : Nat) (h0 : 0 ≤ v) (h1 : v ≤ 9223372036854775807) (h8 : size ≤ 8) : ∀ (d i k : Nat) (x0 : List Int), i + d = size → d < k → at_ + size ≤ x0.length → x0.length ≤ 1048576 → impl_put_int.l0 k x0 (at_ : Int) v (size : Int) (i : Int) = some (x0.take (at_ + i) ++ leB (v / 256 ^ i) d ++ x0.drop (at_ + size))
  | 0, i, k, x0, e1, e2, e3, e4 => by
    obtain ⟨k, rfl⟩ := sucK e2
    simp only [impl_put_int.l0]
    rw [if_neg (by omega), show at_ + i = at_ + size by omega]
    simp [leB]
  | d + 1, i, k, x0, e1, e2, e3, e4 => by
    obtain ⟨k, rfl⟩ := sucK e2
    simp only [impl_put_int.l0]
    have hw : wrap64 ((at_ : Int) + (i : Int)) = ((at_ + i : Nat) : Int) := by unfold wrap64; omega
    have h8i : wrap64 (8 * (i : Int)) = ((8 * i : Nat) : Int) := by unfold wrap64; omega
    rw [hw, h8i, if_pos (by omega), if_pos (by omega), if_pos (by omega), if_pos (by omega), w64n (by omega), put_l0 v at_ size h0 h1 h8 d (i + 1) k _ (by omega) (by omega) (by simpa using e3) (by simpa using e4)]
    have hv : (shr .u64 (IntKind.u64.wrap v) ((8 * i : Nat) : Int)) % 256 = v / 256 ^ i % 256 := by
      rw [wraps_u64 _ h0 (by omega)]
      unfold shr
      rw [Int.toNat_natCast, Nat.min_eq_left (by simp [IntKind.bits]; omega), Int.pow_mul, show (2 : Int) ^ 8 = 256 by decide]
    rw [hv, Int.toNat_natCast]
    congr 1
    have hlt : at_ + i < x0.length := by omega
    rw [show at_ + (i + 1) = (at_ + i) + 1 by omega, List.take_succ_eq_append_getElem (by simpa using hlt), List.getElem_set_self, List.take_set_of_le (Nat.le_refl _), List.drop_set_of_lt (by omega), leB, Int.ediv_ediv_of_nonneg (by have := p256 i; omega), ← Int.pow_succ]
    simp
/-- put: a number's bytes at a place -/
theorem put_f (x0 : List Int) (at_ size : Nat) (v : Int) (h0 : 0 ≤ v) (h1 : v ≤ 9223372036854775807) (h8 : size ≤ 8) (hat : at_ + size ≤ x0.length) (hx : x0.length ≤ 1048576) (k : Nat) (hk : 8 < k) : impl_put_int.f k x0 (at_ : Int) (size : Int) v = some (x0.take at_ ++ leB v size ++ x0.drop (at_ + size)) := by
  unfold impl_put_int.f
  have h := put_l0 v at_ size h0 h1 h8 size 0 k x0 (by omega) (by omega) hat hx
  rw [Int.pow_zero, Int.ediv_one] at h
  exact h

def impl_Root_put.f (a0 l1 : List Int) : Option (List Int) := if rootGood a0 = true ∧ 64 ≤ l1.length ∧ l1.length ≤ 1048576 then some (rootBytes a0 ++ l1.drop 64) else none
theorem impl_Root_put.step (s : Int) (xs l1 : List Int) (j : Nat) (hx : xs.length = 14) (hj : j < 14) (hl : 64 ≤ l1.length) (p : Int) (hp : p = xs.getD j 0) :
    let ls := leB s 8 ++ flat4 (xs.take j) ++ l1.drop (8 + 4 * j)
    ls.take (8 + 4 * j) ++ leB p 4 ++ ls.drop (8 + 4 * j + 4) = leB s 8 ++ flat4 (xs.take (j + 1)) ++ l1.drop (8 + 4 * (j + 1)) := by
  intro ls
  have h1 : (leB s 8 ++ flat4 (xs.take j)).length = 8 + 4 * j := by rw [List.length_append, leB_length, flat4_length, List.length_take, hx, Nat.min_eq_left (by omega)]
  have e1 : ls.take (8 + 4 * j) = leB s 8 ++ flat4 (xs.take j) := by rw [← h1]; exact List.take_left
  have e2 : ls.drop (8 + 4 * j + 4) = l1.drop (8 + 4 * (j + 1)) := by
    show (leB s 8 ++ flat4 (xs.take j) ++ l1.drop (8 + 4 * j)).drop (8 + 4 * j + 4) = _
    rw [List.drop_append, h1, List.drop_eq_nil_of_le (by rw [h1]; omega), List.nil_append, List.drop_drop]
    congr 1
    omega
  rw [e1, e2, flat4_take xs j (by omega), hp, List.append_assoc (leB s 8)]
theorem impl_Root_put.len (s : Int) (xs l1 : List Int) (j : Nat) (hx : xs.length = 14) (hj : j < 14) (hl : 64 ≤ l1.length) : (leB s 8 ++ flat4 (xs.take j) ++ l1.drop (8 + 4 * j)).length = l1.length := by
  rw [List.length_append, List.length_append, leB_length, flat4_length, List.length_take, hx, Nat.min_eq_left (by omega), List.length_drop]
  omega
theorem impl_Root_put.at_ (j : Nat) (hj : j < 14) : wrap64 (8 + wrap64 (4 * (j : Int))) = ((8 + 4 * j : Nat) : Int) := by
  unfold wrap64
  omega
theorem below_then2 {B : Nat} {w w1 w2 : World} (h : Below B w w1) (hB : B ≤ w1.heap.size) (k : Below w1.heap.size w1 w2) : Below B w w2 := below_then h hB k
set_option maxHeartbeats 8000000 in
set_option maxRecDepth 100000 in
theorem impl_Root_put.calls (a0 : List Int) (n0 : a0.length = 15) (P0_ : Nat → Prop) (u9000_ : Value) (l1 : List Int) (r : List Int) (w0 w : World) (hB : Below w0.heap.size w0 w) (ho1 : Kd.R (Kd.int .u8) 5 w w0.heap.size P0_ u9000_ l1) (h : impl_Root_put.f a0 l1 = some r) :
    Calls Tryd.prog 49 #[.agg (nums .i64 a0).toArray, u9000_] w fun e w' => e = .returned (.tuple #[]) ∧ Kd.R (Kd.int .u8) 5 w' w0.heap.size P0_ u9000_ r ∧ Below w0.heap.size w0 w' ∧ Kept w w' (fun k_ => P0_ k_) := by
  unfold impl_Root_put.f at h
  by_cases hgood : rootGood a0 = true ∧ 64 ≤ l1.length ∧ l1.length ≤ 1048576
  case neg => rw [if_neg hgood] at h; cases h
  rw [if_pos hgood] at h
  obtain rfl := Option.some.inj h
  have N_ := Aside0.mk n0
  have HG := Aside0.mk hgood.1
  have HL := Aside0.mk hgood.2
  have hle := hB.size
  have HB0 := Aside0.mk hB
  obtain ⟨s0, Sz0⟩ : ∃ s0, Aside0 (w.heap.size = s0) := ⟨_, ⟨rfl⟩⟩
  have hs0 : s0 = w.heap.size := Sz0.out.symm
  have O0 := Aside0.mk (show Kd.R (Kd.int .u8) 5 w w0.heap.size (fun k => P0_ k ∧ k < s0) u9000_ l1 from Kd.R_mono (Kd.R_bound ho1) (fun k hk => ⟨hk.1, by rw [hs0]; exact hk.2.2.1⟩))
  have hlt0 : w0.heap.size ≤ s0 := by rw [hs0]; exact hle
  clear hs0
  have hu31 := Tryd.underlying31
  clear n0 h hgood ho1 hB
  obtain ⟨s, hs⟩ : ∃ s, s = a0.getD 0 0 := ⟨_, rfl⟩
  have hs1 : 0 ≤ s ∧ s ≤ 262144 := by rw [hs]; exact rootGood_size HG.out
  have HS := Aside0.mk hs
  have HP8 := Aside0.mk (show impl_put_int.f 20 l1 0 8 s = some (l1.take 0 ++ leB s 8 ++ l1.drop (0 + 8)) from put_f l1 0 8 s hs1.1 (by omega) (by decide) (by have := HL.out; omega) (by have := HL.out; omega) 20 (by decide))
  clear hs hs1
  obtain ⟨xs, hxs⟩ : ∃ xs, xs = seg a0 1 14 := ⟨_, rfl⟩
  have HP := Aside0.mk (show impl_Root_pointers.f a0 = some xs by rw [hxs]; exact if_pos N_.out)
  have HXL := Aside0.mk (show xs.length = 14 by rw [hxs]; exact part_len (n := 15) N_.out (by decide))
  have HXS := Aside0.mk hxs
  have HXR := Aside0.mk (show ∀ j, j < 14 → 0 ≤ xs.getD j 0 ∧ xs.getD j 0 < 2048 by rw [hxs]; exact fun j hj => rootGood_ptr HG.out j hj)
  clear hxs
  have hle0 : w0.heap.size ≤ s0 := hlt0
  go_enter Tryd.func49, Tryd.ntmps49
  go_wp2_with (first | ((with_reducible refine gate_dst (N := 2) rfl ?_); refine hx_box rfl 2 rfl 31 (.tmp 0) rfl Sz0 (.agg (nums .i64 a0).toArray) (nums .i64 a0).toArray rfl rfl ?_; intro w1 s1 L1 Sz1 b1 g_; have H1 := Aside0.mk g_; have HB1 := Aside0.mk (below_then2 HB0.out hle b1); have KP1 := Aside0.mk (Kept.of_below b1 P0_); have O1 := Aside0.mk (Kd.R_below O0.out b1); clear g_ b1 HB0 O0) | ((with_reducible refine gate_dst (N := 8) rfl ?_); refine hx_loadf rfl 3 (.tmp 7) rfl s0 0 rfl Tryd.underlying3 rfl H1.out (lt_len (n := 15) N_.out (by decide)) ?_; rw [← HS.out]) | ((with_reducible refine gate_dst (N := 9) rfl ?_); refine goesL_ (some 9) rfl rfl Tryd.func48 (by kernel_rfl) rfl #[u9000_, .int .i64 0, .int .i64 8, .int .i64 s] rfl (by (try simp only [List.map_toArray, List.map_cons, List.map_nil]); first | done | rfl) ?_; refine (impl_put_int.calls 20 (fun k => P0_ k ∧ k < s0) u9000_ l1 0 8 s _ w0 w1 HB1.out O1.out HP8.out).mono ?_; rintro e_ w2 ⟨rfl, R_, hb_, kp_⟩; refine ⟨_, rfl, ?_⟩; have O2 := own_same R_ O1.out rfl; have HB2 := Aside0.mk hb_; have KP2 := Aside0.mk (KP1.out.then_ kp_ (fun k hk => .inl hk.1)); have H2 := Aside0.mk (blk_kept H1.out kp_ (fun hk => by have := hk.2; omega)); obtain ⟨s2, L2, Sz2⟩ := size_letter Sz1 kp_; clear R_ hb_ kp_ O1 HB1 KP1 H1) | ((with_reducible refine gate_dst (N := 10) rfl ?_); refine hx_load rfl 31 (.tmp 2) rfl s0 15 rfl Tryd.underlying31 rfl (by kernel_rfl) H2.out (nums_size _ _ _ N_.out) ?_) | ((with_reducible refine gate_dst (N := 11) rfl ?_); refine goesL_ (some 11) rfl rfl Tryd.func80 (by kernel_rfl) rfl #[.agg (nums .i64 a0).toArray] rfl (by (try simp only [List.map_toArray, List.map_cons, List.map_nil]); first | done | rfl) ?_; refine (impl_Root_pointers.calls a0 N_.out xs _ HP.out).mono ?_; rintro e_ w3 ⟨v0_, rfl, R_, b_⟩; obtain ⟨A11, c11, rfl⟩ := Kd.R_slice R_; refine ⟨_, rfl, ?_⟩; obtain ⟨s3, L3, Sz3⟩ := size_letter Sz2 (kept_below b_); have OP := own_btw (B := w0.heap.size) R_ Sz2.out Sz3 (by have := Sz2.out; omega); have O3 := Aside0.mk (Kd.R_below O2.out b_); have HB3 := Aside0.mk (below_then2 HB2.out (by have := Sz2.out; omega) b_); have KP3 := Aside0.mk (KP2.out.below b_); clear R_ b_ O2 HB2 KP2 H2))
  (try simp only [Act.put, List.setIfInBounds_toArray, List.set_cons_succ, List.set_cons_zero])
  go_loopw [13] (fun v13 wr => ∃ j : Nat, v13 = .int .i64 (j : Int) ∧ Aside0 (j ≤ 14) ∧ Aside0 (Kd.R (Kd.int .u8) 5 wr w0.heap.size (fun k => P0_ k ∧ k < s0) u9000_ (leB s 8 ++ flat4 (xs.take j) ++ l1.drop (8 + 4 * j))) ∧ Aside0 (Kd.R (Kd.int .i64) 3 wr w0.heap.size (Btw s2 s3) (.slice A11 xs.length c11) xs) ∧ Aside0 (Below w0.heap.size w0 wr) ∧ Aside0 (Kept w wr P0_)) (fun v13 _ => 14 - (intOf v13).toNat)
  case atStart => exact ⟨0, rfl, ⟨by omega⟩, ⟨by have := O3.out; simpa [flat4] using this⟩, OP, HB3, KP3⟩
  case round =>
    clear O3 OP HB3 KP3
    obtain ⟨j, rfl, hj, OO0, OP, HB, KP⟩ := hrel
    by_cases c9 : j < 14
    · have c9b0 : decide ((j : Int) < (xs.length : Int)) = true := decide_eq_true (by rw [HXL.out]; omega)
      have c9b1 : decide (j < xs.length) = true := decide_eq_true (by rw [HXL.out]; omega)
      have p112 : 0 ≤ (j : Int) := by omega
      have q112 : (j : Int) < (xs.length : Int) := by rw [HXL.out]; omega
      obtain ⟨ad112, e112, hx112⟩ := Kd.at_int (Kd.R_reads' OP.out).2.2 (j : Int) p112 q112
      cases e112
      rw [Int.toNat_natCast] at hx112
      replace p112 := eq_true p112
      replace q112 := eq_true q112
      have q113 : (j < xs.length) = True := eq_true (by rw [HXL.out]; omega)
      obtain ⟨p, hp⟩ : ∃ p, p = rd xs (j : Int) := ⟨_, rfl⟩
      rw [← hp] at hx112
      have HPV := Aside0.mk (show p = xs.getD j 0 by rw [hp, rd, Int.toNat_natCast])
      have hpr : 0 ≤ p ∧ p < 2048 := by rw [HPV.out]; exact HXR.out j c9
      obtain ⟨ls, hls⟩ : ∃ ls, ls = leB s 8 ++ flat4 (xs.take j) ++ l1.drop (8 + 4 * j) := ⟨_, rfl⟩
      have hll : ls.length = l1.length := by rw [hls]; exact impl_Root_put.len s xs l1 j HXL.out c9 HL.out.1
      obtain ⟨at_, hat⟩ : ∃ a, a = wrap64 (8 + wrap64 (4 * (j : Int))) := ⟨_, rfl⟩
      have hat2 : at_ = ((8 + 4 * j : Nat) : Int) := by rw [hat]; exact impl_Root_put.at_ j c9
      have HP4 := Aside0.mk (show impl_put_int.f 20 ls at_ 4 p = some (ls.take (8 + 4 * j) ++ leB p 4 ++ ls.drop (8 + 4 * j + 4)) by rw [hat2]; exact put_f ls (8 + 4 * j) 4 p hpr.1 (Int.le_of_lt (Int.lt_trans hpr.2 (by decide))) (by decide) (by rw [hll]; have h1_ := HL.out.1; omega) (by rw [hll]; exact HL.out.2) 20 (by decide))
      have HAT := Aside0.mk hat
      have C9 := Aside0.mk c9
      have oo := OO0.out
      rw [← hls] at oo
      have OO := Aside0.mk oo
      have HLS := Aside0.mk hls
      clear hp c9 hpr hls oo OO0 hat hat2 hll
      go_wp2_with (first | ((with_reducible refine gate_dst (N := 23) rfl ?_); refine goesL_ (some 23) rfl rfl Tryd.func48 (by kernel_rfl) rfl #[u9000_, .int .i64 at_, .int .i64 4, .int .i64 p] rfl (by (try simp only [List.map_toArray, List.map_cons, List.map_nil]); first | done | rfl | (rw [HAT.out]; rfl)) ?_; refine (impl_put_int.calls 20 (fun k => P0_ k ∧ k < s0) u9000_ ls at_ 4 p _ w0 _ HB.out OO.out HP4.out).mono ?_; rintro e_ w4 ⟨rfl, R_, hb_, kp_⟩; refine ⟨_, rfl, ?_⟩; have OO4 := own_same R_ OO.out rfl; have HB4 := Aside0.mk hb_; have KP4 := Aside0.mk (KP.out.then_ kp_ (fun k hk => .inl hk.1)); have OP4 := Aside0.mk (Kd.R_kept OP.out kp_ (fun k hk hk2 => by have h1_ := hk.1; have h2_ := hk2.2; omega)); clear R_ hb_ kp_ OO HB KP OP))
      go_roundw
      case rel =>
        refine ⟨j + 1, by rw [show wrap64 ((j : Int) + 1) = ((j + 1 : Nat) : Int) by (have := C9.out; unfold wrap64; omega)], ⟨by have := C9.out; omega⟩, ⟨?_⟩, OP4, HB4, KP4⟩
        have ho := OO4.out
        have e_ := impl_Root_put.step s xs l1 j HXL.out C9.out HL.out.1 p HPV.out
        simp only [] at e_
        rw [← HLS.out] at e_
        rw [e_] at ho
        exact ho
      case measure =>
        rw [show wrap64 ((j : Int) + 1) = ((j + 1 : Nat) : Int) by (have := C9.out; unfold wrap64; omega)]
        simp only [intOf, Int.toNat_natCast]
        have := C9.out
        omega
    · obtain rfl : j = 14 := by have := hj.out; omega
      have c9b0 : decide ((14 : Int) < (xs.length : Int)) = false := decide_eq_false (by rw [HXL.out]; decide)
      have c9b1 : decide (14 < xs.length) = false := decide_eq_false (by rw [HXL.out]; decide)
      go_wp2
      have ho := OO0.out
      rw [List.take_of_length_le (by rw [HXL.out]; exact Nat.le_refl _), HXS.out, HS.out] at ho
      refine Go.Great.bodyPost_end0 rfl rfl ⟨rfl, Kd.R_mono ho (fun _ hk => hk.1), HB.out, KP.out⟩

/-! ### impl_put_uint32: function 81 -/
def impl_put_uint32.l0 : Nat → List Int → Int → Int → Int → Int → Option (List Int)
  | 0, _, _, _, _, _ => none
  | k + 1, x0, x1, x3, x9, x10 => if x10 < x9 then (if 0 ≤ (wrap64 (8 * x10)) then (if 0 ≤ (wrap64 (x1 + x10)) then (if (wrap64 (x1 + x10)) < (x0.length : Int) then (impl_put_uint32.l0 k (x0.set ((wrap64 (x1 + x10)) : Int).toNat ((shr .u64 (IntKind.u64.wrap (x3)) (wrap64 (8 * x10))) % 256)) x1 x3 x9 (wrap64 (x10 + 1))) else (none)) else (none)) else (none)) else (some x0)
def impl_put_uint32.f (k : Nat) (l0 : List Int) (a1 : Int) (a2 : Int) (a3 : Int) : Option (List Int) := impl_put_uint32.l0 k l0 a1 a3 a2 0
theorem impl_put_uint32.mono_l : ∀ k, (∀ y0 y1 y2 y3 y4, LeO (impl_put_uint32.l0 k y0 y1 y2 y3 y4) (impl_put_uint32.l0 (k + 1) y0 y1 y2 y3 y4))
  | 0 => fun _ _ _ _ _ r h => by simp [impl_put_uint32.l0] at h
  | k + 1 => by
    have ih0 := impl_put_uint32.mono_l k
    · intro y0 y1 y2 y3 y4
      unfold impl_put_uint32.l0
      repeat' first
      | (with_reducible exact ih0 _ _ _ _ _)
      | (with_reducible exact LeO.refl _)
      | (with_reducible exact LeO.none _)
      | (with_reducible refine LeO.ite ?_ ?_)
      | (with_reducible refine LeO.bind ?_ (fun _ => ?_))
      | exact ih0 _ _ _ _ _
      | exact LeO.none _
      | refine LeO.ite ?_ ?_
      | refine LeO.bind ?_ (fun _ => ?_)
theorem impl_put_uint32.mono : ∀ a0 a1 a2 a3 k, LeO (impl_put_uint32.f k a0 a1 a2 a3) (impl_put_uint32.f (k + 1) a0 a1 a2 a3) := by
  intro a0 a1 a2 a3 k
  have ih0 := impl_put_uint32.mono_l k
  unfold impl_put_uint32.f
  repeat' first
      | (with_reducible exact ih0 _ _ _ _ _)
      | (with_reducible exact LeO.refl _)
      | (with_reducible exact LeO.none _)
      | (with_reducible refine LeO.ite ?_ ?_)
      | (with_reducible refine LeO.bind ?_ (fun _ => ?_))
      | exact ih0 _ _ _ _ _
      | exact LeO.none _
      | refine LeO.ite ?_ ?_
      | refine LeO.bind ?_ (fun _ => ?_)
set_option maxHeartbeats 8000000 in
set_option maxRecDepth 100000 in
theorem impl_put_uint32.calls (k : Nat) (P0_ : Nat → Prop) (u9000_ : Value) (l0 : List Int) (a1 : Int) (a2 : Int) (a3 : Int) (r : List Int) (w0 w : World) (hB : Below w0.heap.size w0 w) (ho0 : Kd.R (Kd.int .u8) 5 w w0.heap.size P0_ u9000_ l0) (h : impl_put_uint32.f k l0 a1 a2 a3 = some r) :
    Calls Tryd.prog 81 #[u9000_, .int .i64 a1, .int .i64 a2, .int .u32 a3] w fun e w' => e = .returned (.tuple #[]) ∧ Kd.R (Kd.int .u8) 5 w' w0.heap.size (fun k_ => (P0_ k_ ∨ w.heap.size ≤ k_)) u9000_ r ∧ Below w0.heap.size w0 w' ∧ Kept w w' (fun k_ => P0_ k_) := by
  have HO0 := Aside0.mk (show Kd.R (Kd.int .u8) 5 w w0.heap.size (fun k_ => (P0_ k_ ∨ w.heap.size ≤ k_)) u9000_ l0 from Kd.R_mono ho0 (fun k_ hk => (.inl hk)))
  have HK := Aside0.mk (Kept.refl w (fun k_ => P0_ k_))
  have HW0 := Aside0.mk hB.size
  have HB := Aside0.mk hB
  clear hB
  have H : (impl_put_uint32.l0 k l0 a1 a3 a2 0) = some r := h
  clear h
  have H' := Aside0.mk H
  clear H
  go_enter Tryd.func81, Tryd.ntmps81
  go_wp2
  go_loopg [10] k (fun kq v10 w' => ∃ (x0_1 : List Int) (x10_1 : Int), v10 = .int .i64 x10_1 ∧ Aside0 (impl_put_uint32.l0 kq x0_1 a1 a3 a2 x10_1 = some r) ∧ Aside0 (kq ≤ k) ∧ Aside0 (Kd.R (Kd.int .u8) 5 w' w0.heap.size (fun k_ => (P0_ k_ ∨ w.heap.size ≤ k_)) u9000_ x0_1) ∧ Aside0 (Kept w w' (fun k_ => P0_ k_)) ∧ Aside0 (Below w0.heap.size w0 w'))
  case atStart => exact ⟨(l0), (0), (by first | rfl | (simp; done) | (simp [*]; done)), H', ⟨Nat.le_refl _⟩, ⟨by (with_reducible repeat (first | apply Kd.R_alloc | apply Kd.R_drewN | apply Kd.R_drew)); exact HO0.out⟩, ⟨by repeat (first | (with_reducible first | exact HK.out | apply Kept.alloc | apply Kept.drewN | apply Kept.drew) | exact HK.out)⟩, ⟨by repeat (first | (with_reducible first | exact HB.out | apply below_alloc | apply pw_below_drewN | apply below_drew1) | exact HB.out)⟩⟩
  case round =>
    clear H'
    try clear p2
    obtain ⟨x0_1, x10_1, rfl, HA, HK1, HO_0, HK, HB⟩ := hrel
    cases gk with
    | zero => exact absurd HA.out (by simp [impl_put_uint32.l0])
    | succ k1 =>
      have H := HA.out
      clear HA
      simp only [impl_put_uint32.l0] at H
      by_cases c5 : x10_1 < a2
      · rw [if_pos c5] at H
        have c5b0 : decide (x10_1 < a2) = true := decide_eq_true c5
        clear c5
        obtain ⟨ji6, hji6⟩ : ∃ j_ : Int, (wrap64 (8 * x10_1)) = j_ := ⟨_, rfl⟩
        replace H : (if 0 ≤ (ji6) then (if 0 ≤ (wrap64 (a1 + x10_1)) then (if (wrap64 (a1 + x10_1)) < (x0_1.length : Int) then (impl_put_uint32.l0 k1 (x0_1.set ((wrap64 (a1 + x10_1)) : Int).toNat ((shr .u64 (IntKind.u64.wrap (a3)) (ji6)) % 256)) a1 a3 a2 (wrap64 (x10_1 + 1))) else (none)) else (none)) else (none)) = some r := by first | (rw [hji6] at H; exact H) | (simp only [hji6] at H ⊢; exact H)
        have hji6w : (IntKind.i64.wrap (8 * x10_1)) = ji6 := (i64_w _).trans hji6
        by_cases c7 : 0 ≤ (ji6)
        · rw [if_pos c7] at H
          have c7b0 := eq_true c7
          have c7b1 : decide (0 ≤ (ji6)) = true := decide_eq_true c7
          clear c7
          obtain ⟨ji8, hji8⟩ : ∃ j_ : Int, (shr .u64 (IntKind.u64.wrap (a3)) (ji6)) = j_ := ⟨_, rfl⟩
          replace H : (if 0 ≤ (wrap64 (a1 + x10_1)) then (if (wrap64 (a1 + x10_1)) < (x0_1.length : Int) then (impl_put_uint32.l0 k1 (x0_1.set ((wrap64 (a1 + x10_1)) : Int).toNat ((ji8) % 256)) a1 a3 a2 (wrap64 (x10_1 + 1))) else (none)) else (none)) = some r := by first | (rw [hji8] at H; exact H) | (simp only [hji8] at H ⊢; exact H)
          have hji8_ : ((IntKind.u64.wrap (a3)) / 2 ^ min (ji6).toNat 64) = ji8 := hji8
          have hji8z : (ji6) ≤ 64 → ((IntKind.u64.wrap (a3)) / 2 ^ (ji6).toNat) = ji8 := shr_small hji8
          obtain ⟨ji9, hji9⟩ : ∃ j_ : Int, (wrap64 (a1 + x10_1)) = j_ := ⟨_, rfl⟩
          replace H : (if 0 ≤ (ji9) then (if (ji9) < (x0_1.length : Int) then (impl_put_uint32.l0 k1 (x0_1.set ((ji9) : Int).toNat ((ji8) % 256)) a1 a3 a2 (wrap64 (x10_1 + 1))) else (none)) else (none)) = some r := by first | (rw [hji9] at H; exact H) | (simp only [hji9] at H ⊢; exact H)
          have hji9w : (IntKind.i64.wrap (a1 + x10_1)) = ji9 := (i64_w _).trans hji9
          by_cases c10 : 0 ≤ (ji9)
          · rw [if_pos c10] at H
            have c10b0 : decide (0 ≤ (ji9)) = true := decide_eq_true c10
            clear c10
            by_cases c11 : (ji9) < (x0_1.length : Int)
            · rw [if_pos c11] at H
              have c11b0 : decide ((ji9) < (x0_1.length : Int)) = true := decide_eq_true c11
              clear c11
              obtain ⟨y137, hy137⟩ : ∃ y_ : List Int, y_ = (x0_1.set ((ji9) : Int).toNat ((ji8) % 256)) := ⟨_, rfl⟩
              replace H : (impl_put_uint32.l0 k1 y137 a1 a3 a2 (wrap64 (x10_1 + 1))) = some r := by first | (rw [hy137]; with_reducible exact H) | (have H2_ := (Option.bind_some _ _).symm.trans H; rw [hy137]; with_reducible exact H2_) | (have H2_ := (Option.bind_some _ _).symm.trans H; with_reducible exact H2_) | with_reducible exact H | (rw [hy137]; exact H) | exact H
              have Ny137 := Aside0.mk hy137
              clear hy137
              have H' := Aside0.mk H
              clear H
              have p12 : 0 ≤ ((ji9) : Int) := of_decide_eq_true (by first | (with_reducible assumption) | assumption)
              have q12 : ((ji9) : Int) < ((x0_1.length : Int) : Int) := of_decide_eq_true (by first | (with_reducible assumption) | assumption)
              obtain ⟨go12, co12, eo12, gb12, gl12, cl12, HG12⟩ := Kd.R_form HO_0.out (by omega)
              (first | cases eo12 | (injection eo12 with ea_ en_ ec_; (first | subst ea_ | (injection ea_ with ea_; subst ea_)); subst ec_; clear en_))
              have GB12 := Aside0.mk gb12
              have GG12 := Aside0.mk HG12
              clear gb12 gl12 HG12
              have HMgo12 := Aside0.mk (show (P0_ go12 ∨ w.heap.size ≤ go12) from (HO_0.out.1 _ rfl))
              obtain ⟨hx12_0, hf12_0⟩ := Kd.R_celln 0 HO_0.out ((ji9) : Int) p12 q12
              replace p12 := eq_true p12
              replace q12 := eq_true q12
              have HP13 := Kd.R_putg HO_0.out ((ji9) : Int) ((ji8) % 256)
              go_wp2_with (first | ((with_reducible refine gate_store (t := 5) (p := 23) rfl ?_); refine store_event (t := 5) (p := 23) (v := ?vo_w14) (w1 := (wr.setCell ⟨go12, ((ji9) : Int).toNat, none⟩ (.int .u8 ((ji8) % 256)))) ?hg ?ho ?hn ?hr ?_; (case ho => rfl); (case hg => rfl); (case hn => rfl); (case hr => first | (go_simp; done) | (go_simp; rfl)); intro w14 hw; have hg : wr.grownBy w14 (some go12) := (by rw [hw]; exact HP13.2); have hp_ : Kd.R (Kd.int .u8) 5 w14 w0.heap.size (fun k_ => (P0_ k_ ∨ w.heap.size ≤ k_)) (.slice (some ⟨go12, 0, none⟩) x0_1.length co12) y137 := (by rw [hw, Ny137.out]; exact HP13.1); clear HP13; have n0_ := Aside0.mk (hp_); have n1_ := Aside0.mk ((by rw [hw]; exact below_set (HB.out) GB12.out : Below w0.heap.size w0 w14)); have n2_ := Aside0.mk (Kept.of_grown (S := (fun k_ => P0_ k_)) hg (by repeat (first | (with_reducible first | exact HK.out | apply Kept.alloc | apply Kept.drewN | apply Kept.drew) | exact HK.out)) (fun k_ e_ => (HO_0.out.1 k_ e_))); clear HO_0; clear HB; clear HK; have HO_0 := n0_; have HB := n1_; have HK := n2_; clear n0_ n1_ n2_; clear hg hw hp_))
              go_roundg k1
              case measure => have := HK1.out; omega
              case rel => exact ⟨(y137), (wrap64 (x10_1 + 1)), (by first | rfl | (simp; done) | (simp [*]; done)), H', ⟨by have := HK1.out; omega⟩, ⟨by (with_reducible repeat (first | apply Kd.R_alloc | apply Kd.R_drewN | apply Kd.R_drew)); exact HO_0.out⟩, ⟨by repeat (first | (with_reducible first | exact HK.out | apply Kept.alloc | apply Kept.drewN | apply Kept.drew) | exact HK.out)⟩, ⟨by repeat (first | (with_reducible first | exact HB.out | apply below_alloc | apply pw_below_drewN | apply below_drew1) | exact HB.out)⟩⟩
            · rw [if_neg c11] at H
              exact absurd H (by simp)
          · rw [if_neg c10] at H
            exact absurd H (by simp)
        · rw [if_neg c7] at H
          exact absurd H (by simp)
      · rw [if_neg c5] at H
        have c5b0 : decide (x10_1 < a2) = false := decide_eq_false c5
        clear c5
        obtain rfl := Option.some.inj H
        go_wp2
        first | go_end0 | ((try simp only [Exit.inBlock, Exit.then]); refine bodyPost_ret (results_none rfl _ _ _) rfl ?_)
        exact ⟨by first | rfl | (simp [errW_none, errW_some] <;> rfl) | (simp [*, errW_none, errW_some] <;> rfl), by (with_reducible repeat (first | apply Kd.R_alloc | apply Kd.R_drewN | apply Kd.R_drew)); exact HO_0.out, by repeat (first | (with_reducible first | exact HB.out | apply below_alloc | apply pw_below_drewN | apply below_drew1) | exact HB.out), by repeat (first | (with_reducible first | exact HK.out | apply Kept.alloc | apply Kept.drewN | apply Kept.drew) | exact HK.out)⟩

/-! ### impl_Crc32: function 82 -/
mutual
def impl_Crc32.l0 : Nat → Int → List Int → Int → Int → Option (Int)
  | 0, _, _, _, _ => none
  | k + 1, x3, x6, x7, x8 => if x8 < x7 then (if 0 ≤ x8 then (if x8 < (x6.length : Int) then (impl_Crc32.l1 k (Go.bits .xor .u32 x3 ((rd x6 x8) % 4294967296)) x6 x7 x8 0) else (none)) else (none)) else (some (Go.bits .xor .u32 4294967295 x3))
def impl_Crc32.l1 : Nat → Int → List Int → Int → Int → Int → Option (Int)
  | 0, _, _, _, _, _ => none
  | k + 1, x3, x6, x7, x8, x16 => if x16 < 8 then (impl_Crc32.l1 k (Go.bits .xor .u32 (x3 / 2) (Go.bits .and .u32 3988292384 ((-(Go.bits .and .u32 x3 1)) % 4294967296))) x6 x7 x8 (wrap64 (x16 + 1))) else (impl_Crc32.l0 k x3 x6 x7 (wrap64 (x8 + 1)))
end
def impl_Crc32.f (k : Nat) (l0 : List Int) : Option (Int) := impl_Crc32.l0 k 4294967295 l0 (l0.length : Int) 0
theorem impl_Crc32.mono_l : ∀ k, (∀ y0 y1 y2 y3, LeO (impl_Crc32.l0 k y0 y1 y2 y3) (impl_Crc32.l0 (k + 1) y0 y1 y2 y3)) ∧ (∀ y0 y1 y2 y3 y4, LeO (impl_Crc32.l1 k y0 y1 y2 y3 y4) (impl_Crc32.l1 (k + 1) y0 y1 y2 y3 y4))
  | 0 => ⟨fun _ _ _ _ r h => by simp [impl_Crc32.l0] at h, fun _ _ _ _ _ r h => by simp [impl_Crc32.l1] at h⟩
  | k + 1 => by
    obtain ⟨ih0, ih1⟩ := impl_Crc32.mono_l k
    refine ⟨?_, ?_⟩
    · intro y0 y1 y2 y3
      unfold impl_Crc32.l0
      repeat' first
      | (with_reducible exact ih0 _ _ _ _)
      | (with_reducible exact ih1 _ _ _ _ _)
      | (with_reducible exact LeO.refl _)
      | (with_reducible exact LeO.none _)
      | (with_reducible refine LeO.ite ?_ ?_)
      | (with_reducible refine LeO.bind ?_ (fun _ => ?_))
      | exact ih0 _ _ _ _
      | exact ih1 _ _ _ _ _
      | exact LeO.none _
      | refine LeO.ite ?_ ?_
      | refine LeO.bind ?_ (fun _ => ?_)
    · intro y0 y1 y2 y3 y4
      unfold impl_Crc32.l1
      repeat' first
      | (with_reducible exact ih0 _ _ _ _)
      | (with_reducible exact ih1 _ _ _ _ _)
      | (with_reducible exact LeO.refl _)
      | (with_reducible exact LeO.none _)
      | (with_reducible refine LeO.ite ?_ ?_)
      | (with_reducible refine LeO.bind ?_ (fun _ => ?_))
      | exact ih0 _ _ _ _
      | exact ih1 _ _ _ _ _
      | exact LeO.none _
      | refine LeO.ite ?_ ?_
      | refine LeO.bind ?_ (fun _ => ?_)
theorem impl_Crc32.mono : ∀ a0 k, LeO (impl_Crc32.f k a0) (impl_Crc32.f (k + 1) a0) := by
  intro a0 k
  obtain ⟨ih0, ih1⟩ := impl_Crc32.mono_l k
  unfold impl_Crc32.f
  repeat' first
      | (with_reducible exact ih0 _ _ _ _)
      | (with_reducible exact ih1 _ _ _ _ _)
      | (with_reducible exact LeO.refl _)
      | (with_reducible exact LeO.none _)
      | (with_reducible refine LeO.ite ?_ ?_)
      | (with_reducible refine LeO.bind ?_ (fun _ => ?_))
      | exact ih0 _ _ _ _
      | exact ih1 _ _ _ _ _
      | exact LeO.none _
      | refine LeO.ite ?_ ?_
      | refine LeO.bind ?_ (fun _ => ?_)
set_option maxHeartbeats 8000000 in
set_option maxRecDepth 100000 in
theorem impl_Crc32.calls (k : Nat) (A0 : Option Addr) (c0 : Nat) (l0 : List Int) (r : Int) (w : World) (hr0 : Kd.C (Kd.int .u8) w A0 l0.length l0) (hc0 : l0.length ≤ c0) (h : impl_Crc32.f k l0 = some r) :
    Calls Tryd.prog 82 #[.slice A0 l0.length c0] w fun e w' => e = .returned (.int .u32 r) ∧ Drawn0 w w' := by
  have HR0 := Aside0.mk hr0
  have HC0 := Aside0.mk hc0
  clear hr0 hc0
  have H : (impl_Crc32.l0 k 4294967295 l0 (l0.length : Int) 0) = some r := h
  clear h
  have H' := Aside0.mk H
  clear H
  go_enter Tryd.func82, Tryd.ntmps82
  go_wp2
  go_loopg [3, 8] k (fun kq v3 v8 w' => ∃ (x3_1 : Int) (x8_1 : Int), v3 = .int .u32 x3_1 ∧ v8 = .int .i64 x8_1 ∧ Aside0 (impl_Crc32.l0 kq x3_1 l0 (l0.length : Int) x8_1 = some r) ∧ Aside0 (kq ≤ k) ∧ Drawn0 w w')
  case atStart => exact ⟨(4294967295), (0), (by first | rfl | (simp; done) | (simp [*]; done)), (by first | rfl | (simp; done) | (simp [*]; done)), H', ⟨Nat.le_refl _⟩, by repeat (first | exact Drawn0.refl _ | apply Drawn0.step)⟩
  case round =>
    clear H'
    obtain ⟨x3_1, x8_1, rfl, rfl, HA, HK1, ⟨m1, rfl⟩⟩ := hrel
    cases gk with
    | zero => exact absurd HA.out (by simp [impl_Crc32.l0])
    | succ k1 =>
      have H := HA.out
      clear HA
      simp only [impl_Crc32.l0] at H
      by_cases c2 : x8_1 < (l0.length : Int)
      · rw [if_pos c2] at H
        have c2b0 : decide (x8_1 < (l0.length : Int)) = true := decide_eq_true c2
        clear c2
        by_cases c3 : 0 ≤ x8_1
        · rw [if_pos c3] at H
          have c3b0 : decide (0 ≤ x8_1) = true := decide_eq_true c3
          clear c3
          by_cases c4 : x8_1 < (l0.length : Int)
          · rw [if_pos c4] at H
            have c4b0 : decide (x8_1 < (l0.length : Int)) = true := decide_eq_true c4
            clear c4
            have H' := Aside0.mk H
            clear H
            have p138 : 0 ≤ (x8_1 : Int) := of_decide_eq_true (by first | (with_reducible assumption) | assumption)
            have q138 : x8_1 < (l0.length : Int) := of_decide_eq_true (by first | (with_reducible assumption) | assumption)
            obtain ⟨ad138, e138, hx138_0⟩ := Kd.at_int HR0.out x8_1 p138 q138
            cases e138
            replace p138 := eq_true p138
            replace q138 := eq_true q138
            go_wp2
            go_loopg [3, 16] k1 (fun kq v3 v16 w' => ∃ (x3_2 : Int) (x16_2 : Int), v3 = .int .u32 x3_2 ∧ v16 = .int .i64 x16_2 ∧ Aside0 (impl_Crc32.l1 kq x3_2 l0 (l0.length : Int) x8_1 x16_2 = some r) ∧ Aside0 (kq ≤ k1) ∧ Drawn0 w w')
            case atStart => exact ⟨(Go.bits .xor .u32 x3_1 ((rd l0 x8_1) % 4294967296)), (0), (by first | rfl | (simp; done) | (simp [*]; done)), (by first | rfl | (simp; done) | (simp [*]; done)), H', ⟨Nat.le_refl _⟩, by repeat (first | exact Drawn0.refl _ | apply Drawn0.step)⟩
            case round =>
              clear H'
              try clear p1
              try clear q1
              try clear hx1
              try clear c2
              try clear c2b0
              try clear p2
              try clear c3
              try clear c3b0
              try clear c4
              try clear c4b0
              try clear hx138_0
              try clear p138
              try clear q138
              obtain ⟨x3_2, x16_2, rfl, rfl, HA, HK2, ⟨m2, rfl⟩⟩ := hrel
              cases gk with
              | zero => exact absurd HA.out (by simp [impl_Crc32.l1])
              | succ k2 =>
                have H := HA.out
                clear HA
                simp only [impl_Crc32.l1] at H
                by_cases c5 : x16_2 < 8
                · rw [if_pos c5] at H
                  have c5b0 : decide (x16_2 < 8) = true := decide_eq_true c5
                  clear c5
                  have H' := Aside0.mk H
                  clear H
                  go_wp2
                  go_roundg k2
                  case measure => have := HK1.out; have := HK2.out; omega
                  case rel => exact ⟨(Go.bits .xor .u32 (x3_2 / 2) (Go.bits .and .u32 3988292384 ((-(Go.bits .and .u32 x3_2 1)) % 4294967296))), (wrap64 (x16_2 + 1)), (by first | rfl | (simp; done) | (simp [*]; done)), (by first | rfl | (simp; done) | (simp [*]; done)), H', ⟨by have := HK1.out; have := HK2.out; omega⟩, by repeat (first | exact Drawn0.refl _ | apply Drawn0.step)⟩
                · rw [if_neg c5] at H
                  have c5b0 : decide (x16_2 < 8) = false := decide_eq_false c5
                  clear c5
                  have H' := Aside0.mk H
                  clear H
                  go_wp2
                  go_roundg k2
                  case measure => have := HK1.out; have := HK2.out; omega
                  case rel => exact ⟨(x3_2), (wrap64 (x8_1 + 1)), (by first | rfl | (simp; done) | (simp [*]; done)), (by first | rfl | (simp; done) | (simp [*]; done)), H', ⟨by have := HK1.out; have := HK2.out; omega⟩, by repeat (first | exact Drawn0.refl _ | apply Drawn0.step)⟩
          · rw [if_neg c4] at H
            exact absurd H (by simp)
        · rw [if_neg c3] at H
          exact absurd H (by simp)
      · rw [if_neg c2] at H
        have c2b0 : decide (x8_1 < (l0.length : Int)) = false := decide_eq_false c2
        clear c2
        obtain rfl := Option.some.inj H
        go_wp2
        go_ret
        exact ⟨by first | rfl | (simp; done) | (simp [*]; done), by repeat (first | exact Drawn0.refl _ | apply Drawn0.step)⟩

/-! ### impl_sealed: function 50 -/
def impl_sealed.f (k : Nat) (l0 : List Int) : Option (List Int) := if 508 ≤ (l0.length : Int) then ((impl_Crc32.f k (l0.take 508)).bind fun t143 => ((impl_put_uint32.f k l0 508 4 t143).bind fun t144 => (some t144))) else (none)
theorem impl_sealed.mono : ∀ a0 k, LeO (impl_sealed.f k a0) (impl_sealed.f (k + 1) a0) := by
  intro a0 k
  unfold impl_sealed.f
  repeat' first
      | (with_reducible exact impl_Crc32.mono _ _)
      | (with_reducible exact impl_put_uint32.mono _ _ _ _ _)
      | (with_reducible exact LeO.refl _)
      | (with_reducible exact LeO.none _)
      | (with_reducible refine LeO.ite ?_ ?_)
      | (with_reducible refine LeO.bind ?_ (fun _ => ?_))
      | exact impl_Crc32.mono _ _
      | exact impl_put_uint32.mono _ _ _ _ _
      | exact LeO.none _
      | refine LeO.ite ?_ ?_
      | refine LeO.bind ?_ (fun _ => ?_)
set_option maxHeartbeats 8000000 in
set_option maxRecDepth 100000 in
theorem impl_sealed.calls (k : Nat) (P0_ : Nat → Prop) (u9000_ : Value) (l0 : List Int) (r : List Int) (w0 w : World) (hB : Below w0.heap.size w0 w) (ho0 : Kd.R (Kd.int .u8) 5 w w0.heap.size P0_ u9000_ l0) (h : impl_sealed.f k l0 = some r) :
    Calls Tryd.prog 50 #[u9000_] w fun e w' => ∃ v0_ : Value, e = .returned (v0_) ∧ Kd.R (Kd.int .u8) 5 w' w0.heap.size (fun k_ => (P0_ k_ ∨ w.heap.size ≤ k_)) v0_ r ∧ Below w0.heap.size w0 w' ∧ Kept w w' (fun k_ => P0_ k_) := by
  have HO0 := Aside0.mk (show Kd.R (Kd.int .u8) 5 w w0.heap.size (fun k_ => (P0_ k_ ∨ w.heap.size ≤ k_)) u9000_ l0 from Kd.R_mono ho0 (fun k_ hk => (.inl hk)))
  have HK := Aside0.mk (Kept.refl w (fun k_ => P0_ k_))
  have HW0 := Aside0.mk hB.size
  have HB := Aside0.mk hB
  clear hB
  have H : (if 508 ≤ (l0.length : Int) then ((impl_Crc32.f k (l0.take 508)).bind fun t143 => ((impl_put_uint32.f k l0 508 4 t143).bind fun t144 => (some t144))) else (none)) = some r := h
  clear h
  by_cases c2 : 508 ≤ (l0.length : Int)
  · rw [if_pos c2] at H
    have c2b0 := eq_true c2
    have c2b1 : decide (508 ≤ (l0.length : Int)) = true := decide_eq_true c2
    clear c2
    obtain ⟨y139, hy139⟩ : ∃ y_ : List Int, y_ = (l0.take 508) := ⟨_, rfl⟩
    replace H : ((impl_Crc32.f k y139).bind fun t143 => ((impl_put_uint32.f k l0 508 4 t143).bind fun t144 => (some t144))) = some r := by first | (rw [hy139]; with_reducible exact H) | (have H2_ := (Option.bind_some _ _).symm.trans H; rw [hy139]; with_reducible exact H2_) | (have H2_ := (Option.bind_some _ _).symm.trans H; with_reducible exact H2_) | with_reducible exact H | (rw [hy139]; exact H) | exact H
    have Ny139 := Aside0.mk hy139
    clear hy139
    replace H := Option.bind_eq_some_iff.mp H
    obtain ⟨t143, A30, H⟩ := H
    replace H : ((impl_put_uint32.f k l0 508 4 t143).bind fun t144 => (some t144)) = some r := H
    have A3 := Aside0.mk A30
    clear A30
    replace H := Option.bind_eq_some_iff.mp H
    obtain ⟨t144, A40, H⟩ := H
    replace H : (some t144) = some r := H
    have A4 := Aside0.mk A40
    clear A40
    obtain rfl := Option.some.inj H
    obtain ⟨Ao6, co6, eo6⟩ := Kd.R_slice HO0.out
    subst eo6
    have q5 : (508 : Int) ≤ ((l0.length : Int) : Int) := of_decide_eq_true (by first | (with_reducible assumption) | assumption)
    obtain ⟨i05, hi05, _, hsz5, _⟩ := info_parts info5
    have hroom5 : l0.length ≤ co6 := (Kd.R_reads' HO0.out).2.1
    have hC5 : Kd.C (Kd.int .u8) _ Ao6 l0.length l0 := (Kd.R_reads' HO0.out).2.2
    have hcut5 := cut_to (P := Tryd.prog) 28 5 .i64 Tryd.underlying28 hi05 Ao6 l0.length co6 508 (by omega) q5 hroom5
    have hr5 := Kd.C_take (m := 508) hC5 (by omega)
    have hy5 : y139.length = (508 : Int).toNat := (by rw [Ny139.out, List.length_take]; omega)
    rw [← Ny139.out] at hr5
    rw [← hy5] at hcut5
    have HR142 := Aside0.mk hr5
    have HC142 := Aside0.mk (show y139.length ≤ co6 from by omega)
    clear hr5 hC5 hroom5 hi05 hsz5
    have KY5 := Aside0.mk hy5
    clear hy5
    have KL5 := Aside0.mk (show 508 ≤ l0.length from by omega)
    replace q5 := eq_true q5
    go_enter Tryd.func50, Tryd.ntmps50
    go_wp2_with (first | ((with_reducible refine gate_callee (f := 82) rfl ?_); refine goesL_ (some 6) rfl rfl Tryd.func82 (by kernel_rfl) rfl #[.slice Ao6 y139.length co6] rfl (by (try simp only [List.map_toArray, List.map_cons, List.map_nil]); first | done | rfl | (simp only [List.length_drop, List.length_take]; rfl)) ?_; (with_reducible refine (impl_Crc32.calls k _ _ y139 t143 _ ?side1 ?side2 A3.out).mono ?_); (case side1 => repeat (first | exact (by repeat (first | (with_reducible exact HR142.out) | (with_reducible refine Kd.C_alloc ?_ _) | (with_reducible refine Kd.C_drewN ?_ _) | (with_reducible refine Kd.C_drew ?_) | exact HR142.out)) | (with_reducible refine Kd.C_alloc ?_ _) | (with_reducible refine Kd.C_drewN ?_ _) | (with_reducible refine Kd.C_drew ?_))); (case side2 => exact HC142.out); rintro e w' ⟨rfl, ⟨nd, rfl⟩⟩; refine ⟨_, rfl, ?_⟩) | ((with_reducible refine gate_callee (f := 81) rfl ?_); refine goesL_ (some 7) rfl rfl Tryd.func81 (by kernel_rfl) rfl #[.slice Ao6 l0.length co6, .int .i64 508, .int .i64 4, .int .u32 t143] rfl (by (try simp only [List.map_toArray, List.map_cons, List.map_nil]); first | done | rfl | (simp only [List.length_drop, List.length_take]; rfl)) ?_; (with_reducible refine (impl_put_uint32.calls k (fun k_ => some k_ = (.slice Ao6 l0.length co6 : Value).ownBlock) (.slice Ao6 l0.length co6) l0 508 4 t143 t144 w0 _ ?side1 ?side2 A4.out).mono ?_); (case side1 => repeat (first | (with_reducible first | exact HB.out | apply below_alloc | apply pw_below_drewN | apply below_drew1) | exact HB.out)); (case side2 => exact Kd.R_tight rfl HO0.out); rintro e w7 ⟨rfl, hy0, hb, hkp⟩; refine ⟨_, rfl, ?_⟩; have n0_ := Aside0.mk (Kd.R_reok rfl hy0 (fun k_ e_ => HO0.out.1 k_ e_)); have n1_ := Aside0.mk (Kept.then_ (S := (fun k_ => P0_ k_)) (by repeat (first | (with_reducible first | exact HK.out | apply Kept.alloc | apply Kept.drewN | apply Kept.drew) | exact HK.out)) hkp (fun k_ hs_ => (fun e_ => (HO0.out.1 k_ e_.symm)) hs_)); have n2_ := Aside0.mk (hb); clear HO0; clear HK; clear HB; have HO0 := n0_; have HK := n1_; have HB := n2_; clear n0_ n1_ n2_; (try clear hb); (try clear hkp); (try clear hy0)))
    go_ret
    exact ⟨_, by first | rfl | (simp [errW_none, errW_some] <;> rfl) | (simp [*, errW_none, errW_some] <;> rfl), by (with_reducible repeat (first | apply Kd.R_alloc | apply Kd.R_drewN | apply Kd.R_drew)); exact HO0.out, by repeat (first | (with_reducible first | exact HB.out | apply below_alloc | apply pw_below_drewN | apply below_drew1) | exact HB.out), by repeat (first | (with_reducible first | exact HK.out | apply Kept.alloc | apply Kept.drewN | apply Kept.drew) | exact HK.out)⟩
  · rw [if_neg c2] at H
    exact absurd H (by simp)

open Go.Proofs.YtkghgjehjchajaaDoorW Go.Proofs.YtkghgjehjchajaaDoorW.PrintHand Go.Proofs.YtkghgjehjchajaaDoorW.PrintHx
/-! ### impl_EncodeSnap: function 12 -/
open Go.Proofs.YtkghgjehjchajaaDoorW.PrintLe Go.Proofs.YtkghgjehjchajaaDoorW.PrintRaw
theorem made_u8 (n : Nat) : madeCells (Value.int .u8 0).cells (n * 1) = (nums .u8 (List.replicate n 0)).toArray := by
  apply Array.ext
  · simp [madeCells, nums]
  · intro i h1 h2
    simp [madeCells, nums, Value.cells, Nat.mod_one]
theorem make_u8 {P : Program} {o : Oper} {a : Act} {w : World} (t e n : Nat) (x y : Operand) (ho : o.op = .makeSlice t x y) (hx : a.eval x = .int .i64 (n : Int)) (hy : a.eval y = .int .i64 (n : Int)) (ht : P.underlying t = some (.slice e)) (hinfo : (P.info? e).map (fun i => (i.zero, i.size, i.bytes)) = some (some (.int .u8 0), 1, 1)) (hn : n ≤ 1048576) :
    (execOp a.eval o).run P w = .ok (.value (.slice (some ⟨w.heap.size, 0, none⟩) n n)) (w.alloc (.cells (nums .u8 (List.replicate n 0)).toArray e)) := by
  obtain ⟨i0, hi, hzz⟩ := Option.map_eq_some_iff.1 hinfo
  simp only [Prod.mk.injEq] at hzz
  obtain ⟨hz0, hz1, hz2⟩ := hzz
  have hr := run_make (P := P) w t e i0 (.int .u8 0) ht hi hz0 .i64 .i64 (n : Int) (n : Int) (by omega) (by omega)
    (by
      have h3 : ((i0.bytes * n : Nat) : Int) ≤ 281474976710656 := by rw [hz2]; omega
      rwa [Int.natCast_mul] at h3) (by omega)
  simp only [Int.toNat_natCast] at hr
  rw [hz1, made_u8] at hr
  simp [execOp, ho, hx, hy, hr]
set_option maxHeartbeats 8000000 in
set_option maxRecDepth 100000 in
/-- put, on a block of bytes (the slice may begin inside it) -/
theorem impl_put_int.raw (g off n cap at_ size : Nat) (L : List Int) (v : Int) (w : World) (hg : w.heap[g]? = some (.cells (nums .u8 L).toArray 5 (0, 0))) (hn : off + n ≤ L.length) (hat : at_ + size ≤ n) (h8 : size ≤ 8) (hL : L.length ≤ 1048576) :
    Calls Tryd.prog 48 #[.slice (some ⟨g, off, none⟩) n cap, .int .i64 (at_ : Int), .int .i64 (size : Int), .int .i64 v] w fun e w' => e = .returned (.tuple #[]) ∧ MT g w w' ∧ w'.heap[g]? = some (.cells (nums .u8 (L.take (off + at_) ++ leB v size ++ L.drop (off + at_ + size))).toArray 5 (0, 0)) := by
  have HG := Aside0.mk hg
  have HN := Aside0.mk hn
  have HAT := Aside0.mk hat
  have H8 := Aside0.mk h8
  have HL := Aside0.mk hL
  clear hg hn hat h8 hL
  go_enter Tryd.func48, Tryd.ntmps48
  go_wp2
  go_loopw [8, 10] (fun v8 v10 wr => ∃ (j : Nat) (u : Value), u = v8 ∧ v10 = .int .i64 (j : Int) ∧ Aside0 (j ≤ size) ∧ Aside0 (MT g w wr) ∧ Aside0 (wr.heap[g]? = some (.cells (nums .u8 (L.take (off + at_) ++ leB v j ++ L.drop (off + at_ + j))).toArray 5 (0, 0)))) (fun _ v10 _ => size - (intOf v10).toNat)
  case atStart => exact ⟨0, _, rfl, rfl, ⟨Nat.zero_le _⟩, ⟨MT.refl _ _⟩, ⟨by simpa [leB] using HG.out⟩⟩
  case round =>
    obtain ⟨j, v8, rfl, rfl, hj, HM, HC⟩ := hrel
    by_cases c9 : j < size
    · have c9b0 : decide ((j : Int) < (size : Int)) = true := decide_eq_true (by omega)
      have c9b1 : decide (j < size) = true := decide_eq_true c9
      have hs8 := H8.out
      have hat2 := HAT.out
      have hn2 := HN.out
      have hl2 := HL.out
      have e1 : wrap64 ((at_ : Int) + (j : Int)) = ((at_ + j : Nat) : Int) := by unfold wrap64; omega
      have e2 : wrap64 (8 * (j : Int)) = ((8 * j : Nat) : Int) := by unfold wrap64; omega
      have q1 : (0 ≤ wrap64 ((at_ : Int) + (j : Int))) = True := eq_true (by rw [e1]; omega)
      have q2 : (wrap64 ((at_ : Int) + (j : Int)) < (n : Int)) = True := eq_true (by rw [e1]; omega)
      have q3 : (0 ≤ wrap64 (8 * (j : Int))) = True := eq_true (by rw [e2]; omega)
      have q4 : (wrap64 (8 * (j : Int)) < 0) = False := eq_false (by rw [e2]; omega)
      have q5 : decide (wrap64 (8 * (j : Int)) < 0) = false := decide_eq_false (by rw [e2]; omega)
      obtain ⟨M, hM⟩ : ∃ M, M = L.take (off + at_) ++ leB v j ++ L.drop (off + at_ + j) := ⟨_, rfl⟩
      have hml : M.length = L.length := by rw [hM, List.length_append, List.length_append, List.length_take, List.length_drop, leB_length]; omega
      have hc := HC.out
      rw [← hM] at hc
      have HC2 := Aside0.mk hc
      have HML := Aside0.mk (show off + (at_ + j) < M.length by rw [hml]; omega)
      have HMM := Aside0.mk hM
      have C9 := Aside0.mk c9
      have E1 := Aside0.mk e1
      have E2 := Aside0.mk e2
      clear hs8 hat2 hn2 hl2 hM hml hc HC c9 e1 e2
      go_wp2_with (first | ((with_reducible refine gate_store (t := 5) (p := 23) (v := .tmp 22) rfl ?_); refine st_num rfl rfl 5 (.tmp 23) (.tmp 22) rfl g (off + (at_ + j)) .u8 _ (by rw [E1.out]; rfl) rfl (by kernel_rfl) HC2.out HML.out ?_; intro w2 t2 g2))
      go_roundw
      case rel =>
        refine ⟨j + 1, _, rfl, by rw [show wrap64 ((j : Int) + 1) = ((j + 1 : Nat) : Int) by (have := C9.out; have := H8.out; unfold wrap64; omega)], ⟨by have := C9.out; omega⟩, ⟨HM.out.touch t2⟩, ⟨?_⟩⟩
        have hs8 := H8.out
        have hj2 := C9.out
        have hn2 := HN.out
        have ha2 := HAT.out
        have h_ := g2
        rw [byte_at v j (by omega), show off + (at_ + j) = (off + at_) + j by omega, set_next (p := off + at_) HMM.out (by omega), show off + at_ + (j + 1) = off + at_ + j + 1 by omega] at h_
        rw [show off + at_ + (j + 1) = off + at_ + j + 1 by omega]
        exact h_
      case measure =>
        rw [show wrap64 ((j : Int) + 1) = ((j + 1 : Nat) : Int) by (have := C9.out; have := H8.out; unfold wrap64; omega)]
        simp only [intOf, Int.toNat_natCast]
        have := C9.out
        omega
    · obtain rfl : j = size := by have := hj.out; omega
      have c9b0 : decide ((j : Int) < (j : Int)) = false := decide_eq_false (by omega)
      have c9b1 : decide (j < j) = false := decide_eq_false (by omega)
      clear c9
      go_wp2
      refine Go.Great.bodyPost_end0 rfl rfl ⟨rfl, HM.out, HC.out⟩
theorem impl_Root_put.rstep (s : Int) (xs L : List Int) (off j : Nat) (hx : xs.length = 14) (hj : j < 14) (hl : off + 64 ≤ L.length) (p : Int) (hp : p = xs.getD j 0) :
    let ls := L.take off ++ leB s 8 ++ flat4 (xs.take j) ++ L.drop (off + 8 + 4 * j)
    ls.take (off + (8 + 4 * j)) ++ leB p 4 ++ ls.drop (off + (8 + 4 * j) + 4) = L.take off ++ leB s 8 ++ flat4 (xs.take (j + 1)) ++ L.drop (off + 8 + 4 * (j + 1)) := by
  intro ls
  have h1 : (L.take off ++ leB s 8 ++ flat4 (xs.take j)).length = off + (8 + 4 * j) := by
    rw [List.length_append, List.length_append, leB_length, flat4_length, List.length_take, List.length_take, hx, Nat.min_eq_left (by omega), Nat.min_eq_left (by omega)]
    omega
  have e1 : ls.take (off + (8 + 4 * j)) = L.take off ++ leB s 8 ++ flat4 (xs.take j) := by rw [← h1]; exact List.take_left
  have e2 : ls.drop (off + (8 + 4 * j) + 4) = L.drop (off + 8 + 4 * (j + 1)) := by
    show (L.take off ++ leB s 8 ++ flat4 (xs.take j) ++ L.drop (off + 8 + 4 * j)).drop (off + (8 + 4 * j) + 4) = _
    rw [List.drop_append, h1, List.drop_eq_nil_of_le (by rw [h1]; omega), List.nil_append, List.drop_drop]
    congr 1
    omega
  rw [e1, e2, flat4_take xs j (by omega), hp, List.append_assoc (L.take off ++ leB s 8)]
theorem impl_Root_put.rlen (s : Int) (xs L : List Int) (off j : Nat) (hx : xs.length = 14) (hj : j < 14) (hl : off + 64 ≤ L.length) : (L.take off ++ leB s 8 ++ flat4 (xs.take j) ++ L.drop (off + 8 + 4 * j)).length = L.length := by
  rw [List.length_append, List.length_append, List.length_append, leB_length, flat4_length, List.length_take, List.length_take, hx, Nat.min_eq_left (by omega), Nat.min_eq_left (by omega), List.length_drop]
  omega
set_option maxHeartbeats 8000000 in
set_option maxRecDepth 100000 in
/-- Root.put, on a block of bytes (the slice may begin inside it) -/
theorem impl_Root_put.raw (a0 : List Int) (n0 : a0.length = 15) (hgood : rootGood a0 = true) (g off n cap : Nat) (L : List Int) (w : World) (hg : w.heap[g]? = some (.cells (nums .u8 L).toArray 5 (0, 0))) (hn : off + n ≤ L.length) (h64 : 64 ≤ n) (hL : L.length ≤ 1048576) :
    Calls Tryd.prog 49 #[.agg (nums .i64 a0).toArray, .slice (some ⟨g, off, none⟩) n cap] w fun e w' => e = .returned (.tuple #[]) ∧ MT g w w' ∧ w'.heap[g]? = some (.cells (nums .u8 (L.take off ++ rootBytes a0 ++ L.drop (off + 64))).toArray 5 (0, 0)) := by
  have N_ := Aside0.mk n0
  have HG := Aside0.mk hgood
  have HN := Aside0.mk hn
  have H64 := Aside0.mk h64
  have HL := Aside0.mk hL
  have HC0 := Aside0.mk hg
  have hgl := blk_lt hg
  have HGL := Aside0.mk hgl
  clear n0 hgood hn h64 hL hg
  obtain ⟨s, hs⟩ : ∃ s, s = a0.getD 0 0 := ⟨_, rfl⟩
  have HS := Aside0.mk hs
  clear hs
  obtain ⟨xs, hxs⟩ : ∃ xs, xs = seg a0 1 14 := ⟨_, rfl⟩
  have HP := Aside0.mk (show impl_Root_pointers.f a0 = some xs by rw [hxs]; exact if_pos N_.out)
  have HXL := Aside0.mk (show xs.length = 14 by rw [hxs]; exact part_len (n := 15) N_.out (by decide))
  have HXS := Aside0.mk hxs
  clear hxs
  have hu31 := Tryd.underlying31
  have HB0 : Aside0 (Below w.heap.size w w) := ⟨Below.refl _ _⟩
  obtain ⟨s0, Sz0⟩ : ∃ s0, Aside0 (w.heap.size = s0) := ⟨_, ⟨rfl⟩⟩
  have hw0 : w.heap.size ≤ s0 := Nat.le_of_eq Sz0.out
  have hw1 : s0 ≤ w.heap.size := Nat.le_of_eq Sz0.out.symm
  have hgs : g < s0 := by omega
  clear hgl
  go_enter Tryd.func49, Tryd.ntmps49
  go_wp2_with (first | ((with_reducible refine gate_dst (N := 2) rfl ?_); refine hx_box rfl 2 rfl 31 (.tmp 0) rfl Sz0 (.agg (nums .i64 a0).toArray) (nums .i64 a0).toArray rfl rfl ?_; intro w1 s1 L1 Sz1 b1 g_; have H1 := Aside0.mk g_; have HC1 := Aside0.mk (blk_below HC0.out b1); have M1 := Aside0.mk (MT.of_below (g := g) b1); clear g_ b1 HB0 HC0) | ((with_reducible refine gate_dst (N := 8) rfl ?_); refine hx_loadf rfl 3 (.tmp 7) rfl s0 0 rfl Tryd.underlying3 rfl H1.out (lt_len (n := 15) N_.out (by decide)) ?_; rw [← HS.out]) | ((with_reducible refine gate_dst (N := 9) rfl ?_); refine goesL_ (some 9) rfl rfl Tryd.func48 (by kernel_rfl) rfl #[.slice (some ⟨g, off, none⟩) n cap, .int .i64 0, .int .i64 8, .int .i64 s] rfl (by (try simp only [List.map_toArray, List.map_cons, List.map_nil]); first | done | rfl) ?_; refine (impl_put_int.raw g off n cap 0 8 L s w1 HC1.out HN.out (by have := H64.out; omega) (by decide) HL.out).mono ?_; rintro e_ w2 ⟨rfl, m_, g_⟩; refine ⟨_, rfl, ?_⟩; have H2 := Aside0.mk (m_.blk (show s0 ≠ g by omega) H1.out); have HC2 := Aside0.mk g_; have M2 := Aside0.mk (M1.out.trans m_); obtain ⟨s2, L2, Sz2⟩ := size_letter Sz1 m_.kept; clear m_ g_ H1 HC1 M1) | ((with_reducible refine gate_dst (N := 10) rfl ?_); refine hx_load rfl 31 (.tmp 2) rfl s0 15 rfl Tryd.underlying31 rfl (by kernel_rfl) H2.out (nums_size _ _ _ N_.out) ?_) | ((with_reducible refine gate_dst (N := 11) rfl ?_); refine goesL_ (some 11) rfl rfl Tryd.func80 (by kernel_rfl) rfl #[.agg (nums .i64 a0).toArray] rfl (by (try simp only [List.map_toArray, List.map_cons, List.map_nil]); first | done | rfl) ?_; refine (impl_Root_pointers.calls a0 N_.out xs _ HP.out).mono ?_; rintro e_ w3 ⟨v0_, rfl, R_, b_⟩; obtain ⟨A11, c11, rfl⟩ := Kd.R_slice R_; refine ⟨_, rfl, ?_⟩; obtain ⟨s3, L3, Sz3⟩ := size_letter Sz2 (kept_below b_); have OP := own_btw (B := 0) R_ Sz2.out Sz3 (Nat.zero_le _); have HC3 := Aside0.mk (blk_below HC2.out b_); have M3 := Aside0.mk (M2.out.then_ b_); clear R_ b_ HC2 M2 H2))
  (try simp only [Act.put, List.setIfInBounds_toArray, List.set_cons_succ, List.set_cons_zero])
  go_loopw [4, 5, 13] (fun v4 v5 v13 wr => ∃ (j : Nat) (u4 u5 : Value), u4 = v4 ∧ u5 = v5 ∧ v13 = .int .i64 (j : Int) ∧ Aside0 (j ≤ 14) ∧ Aside0 (wr.heap[g]? = some (.cells (nums .u8 (L.take off ++ leB s 8 ++ flat4 (xs.take j) ++ L.drop (off + 8 + 4 * j))).toArray 5 (0, 0))) ∧ Aside0 (Kd.R (Kd.int .i64) 3 wr 0 (Btw s2 s3) (.slice A11 xs.length c11) xs) ∧ Aside0 (MT g w wr)) (fun _ _ v13 _ => 14 - (intOf v13).toNat)
  case atStart => exact ⟨0, _, _, rfl, rfl, rfl, ⟨by omega⟩, ⟨by have := HC3.out; simpa [flat4] using this⟩, OP, M3⟩
  case round =>
    clear HC3 OP M3
    obtain ⟨j, v4, v5, rfl, rfl, rfl, hj, HC, OP, HM⟩ := hrel
    by_cases c9 : j < 14
    · have c9b0 : decide ((j : Int) < (xs.length : Int)) = true := decide_eq_true (by rw [HXL.out]; omega)
      have c9b1 : decide (j < xs.length) = true := decide_eq_true (by rw [HXL.out]; omega)
      have p112 : 0 ≤ (j : Int) := by omega
      have q112 : (j : Int) < (xs.length : Int) := by rw [HXL.out]; omega
      obtain ⟨ad112, e112, hx112⟩ := Kd.at_int (Kd.R_reads' OP.out).2.2 (j : Int) p112 q112
      cases e112
      rw [Int.toNat_natCast] at hx112
      replace p112 := eq_true p112
      replace q112 := eq_true q112
      have q113 : (j < xs.length) = True := eq_true (by rw [HXL.out]; omega)
      obtain ⟨p, hp⟩ : ∃ p, p = rd xs (j : Int) := ⟨_, rfl⟩
      rw [← hp] at hx112
      have HPV := Aside0.mk (show p = xs.getD j 0 by rw [hp, rd, Int.toNat_natCast])
      obtain ⟨ls, hls⟩ : ∃ ls, ls = L.take off ++ leB s 8 ++ flat4 (xs.take j) ++ L.drop (off + 8 + 4 * j) := ⟨_, rfl⟩
      have HLL := Aside0.mk (show ls.length = L.length by rw [hls]; exact impl_Root_put.rlen s xs L off j HXL.out c9 (by have h1_ := HN.out; have h2_ := H64.out; omega))
      have HAT := Aside0.mk (impl_Root_put.at_ j c9)
      have hc := HC.out
      rw [← hls] at hc
      have HC4 := Aside0.mk hc
      have HLS := Aside0.mk hls
      have C9 := Aside0.mk c9
      clear hp c9 hls hc HC
      go_wp2_with (first | ((with_reducible refine gate_dst (N := 23) rfl ?_); refine goesL_ (some 23) rfl rfl Tryd.func48 (by kernel_rfl) rfl #[.slice (some ⟨g, off, none⟩) n cap, .int .i64 ((8 + 4 * j : Nat) : Int), .int .i64 4, .int .i64 p] rfl (by (try simp only [List.map_toArray, List.map_cons, List.map_nil]); first | done | rfl | (rw [← HAT.out]; rfl)) ?_; refine (impl_put_int.raw g off n cap (8 + 4 * j) 4 ls p _ HC4.out (by rw [HLL.out]; exact HN.out) (by have h1_ := H64.out; have h2_ := C9.out; omega) (by decide) (by rw [HLL.out]; exact HL.out)).mono ?_; rintro e_ w4 ⟨rfl, m_, g_⟩; refine ⟨_, rfl, ?_⟩; have HC5 := Aside0.mk g_; have M5 := Aside0.mk (HM.out.trans m_); have OP5 := Aside0.mk (m_.R OP.out (fun k hk => by have h1_ := hk.1; omega)); clear m_ g_ HC4 HM OP))
      go_roundw
      case rel =>
        refine ⟨j + 1, _, _, rfl, rfl, by rw [show wrap64 ((j : Int) + 1) = ((j + 1 : Nat) : Int) by (have := C9.out; unfold wrap64; omega)], ⟨by have := C9.out; omega⟩, ⟨?_⟩, OP5, M5⟩
        have ho := HC5.out
        have e_ := impl_Root_put.rstep s xs L off j HXL.out C9.out (by have h1_ := HN.out; have h2_ := H64.out; omega) p HPV.out
        simp only [] at e_
        rw [← HLS.out] at e_
        rw [e_] at ho
        exact ho
      case measure =>
        rw [show wrap64 ((j : Int) + 1) = ((j + 1 : Nat) : Int) by (have := C9.out; unfold wrap64; omega)]
        simp only [intOf, Int.toNat_natCast]
        have := C9.out
        omega
    · obtain rfl : j = 14 := by have := hj.out; omega
      have c9b0 : decide ((14 : Int) < (xs.length : Int)) = false := decide_eq_false (by rw [HXL.out]; decide)
      have c9b1 : decide (14 < xs.length) = false := decide_eq_false (by rw [HXL.out]; decide)
      go_wp2
      have ho := HC.out
      rw [show xs.take 14 = xs from List.take_of_length_le (by rw [HXL.out]; exact Nat.le_refl _), HXS.out, HS.out, List.append_assoc (L.take off)] at ho
      refine Go.Great.bodyPost_end0 rfl rfl ⟨rfl, HM.out, ho⟩
open Go.Proofs.YtkghgjehjchajaaDoorW.PrintLe Go.Proofs.YtkghgjehjchajaaDoorW.PrintGrow Go.Proofs.YtkghgjehjchajaaDoorW.PrintDec Go.Proofs.YtkghgjehjchajaaDoorW.PrintIno Go.Proofs.YtkghgjehjchajaaDoorW.PrintTab2 Go.Proofs.YtkghgjehjchajaaDoorW.PrintTab3 Go.Proofs.YtkghgjehjchajaaDoorW.PrintFsi Go.Proofs.YtkghgjehjchajaaDoorW.PrintFsb Go.Proofs.YtkghgjehjchajaaDoorW.PrintFsd Go.Proofs.YtkghgjehjchajaaDoorW.PrintCrc Go.Proofs.YtkghgjehjchajaaDoorW.PrintSnp Go.Proofs.YtkghgjehjchajaaDoorW.PrintRaw
theorem implCrc_l1 (l : List Int) (x8 : Int) : ∀ (d i k n : Nat), i + d = 8 → n < 4294967296 → impl_Crc32.l1 (k + d + 1) (n : Int) l (l.length : Int) x8 (i : Int) = impl_Crc32.l0 k ((stepN d n : Nat) : Int) l (l.length : Int) (wrap64 (x8 + 1))
  | 0, i, k, n, h1, h3 => by
    simp only [impl_Crc32.l1]
    rw [if_neg (by omega)]
    rfl
  | d + 1, i, k, n, h1, h3 => by
    have ea := and1_u32 n h3
    have e2 : (n : Int) / 2 = ((n / 2 : Nat) : Int) := by omega
    have hv : Go.bits .xor .u32 ((n : Int) / 2) (Go.bits .and .u32 3988292384 ((-(Go.bits .and .u32 (n : Int) 1)) % 4294967296)) = ((stepB n : Nat) : Int) := by
      rw [ea, e2]
      by_cases hp : n % 2 = 1
      · rw [hp, show (-((1 : Nat) : Int)) % 4294967296 = 4294967295 by omega, show Go.bits .and .u32 3988292384 4294967295 = ((3988292384 : Nat) : Int) by decide +kernel, xor_nat _ _ (by omega) (by omega)]
        simp only [stepB, if_pos hp]
      · rw [show n % 2 = 0 by omega, show (-((0 : Nat) : Int)) % 4294967296 = 0 by omega, show Go.bits .and .u32 3988292384 0 = ((0 : Nat) : Int) by decide +kernel, xor_nat _ _ (by omega) (by omega)]
        simp only [stepB, if_neg hp]
    rw [show k + (d + 1) + 1 = (k + d + 1) + 1 by omega, impl_Crc32.l1, if_pos (by omega), hv, w64n (by omega), implCrc_l1 l x8 d (i + 1) k _ (by omega) (stepB_lt h3)]
    rfl
theorem implCrc_l0 (l : List Int) (hb : ∀ x ∈ l, 0 ≤ x ∧ x ≤ 255) (hl : l.length ≤ 1048576) : ∀ (d i k n : Nat), i + d = l.length → 10 * d + 10 < k → n < 4294967296 → impl_Crc32.l0 k (n : Int) l (l.length : Int) (i : Int) = some (Go.bits .xor .u32 4294967295 ((crcI n (nats (l.drop i)) : Nat) : Int))
  | 0, i, k, n, h1, h2, h3 => by
    obtain ⟨k, rfl⟩ := sucK h2
    simp only [impl_Crc32.l0]
    rw [if_neg (by omega), List.drop_eq_nil_of_le (by omega)]
    rfl
  | d + 1, i, k, n, h1, h2, h3 => by
    obtain ⟨k, rfl⟩ : ∃ j, k = (j + 8 + 1) + 1 := ⟨k - 10, by omega⟩
    have hi : i < l.length := by omega
    have hx := hb _ (List.getElem_mem hi)
    obtain ⟨c, hc⟩ := Int.eq_ofNat_of_zero_le hx.1
    have hc8 : c < 256 := by omega
    have hlt : n ^^^ c < 2 ^ 32 := Nat.xor_lt_two_pow (by omega) (by omega)
    rw [impl_Crc32.l0]
    rw [if_pos (by omega), if_pos (by omega), if_pos (by omega), rd_some hi, hc, show (c : Int) % 4294967296 = (c : Int) by omega, xor_nat _ _ h3 (by omega)]
    have h := implCrc_l1 l (i : Int) 8 0 k (n ^^^ c) rfl (by omega)
    rw [show ((0 : Nat) : Int) = 0 from rfl] at h
    rw [h, w64n (by omega), implCrc_l0 l hb hl d (i + 1) k _ (by omega) (by omega) (stepN_lt 8 (by omega)), List.drop_eq_getElem_cons hi]
    simp only [nats, List.map_cons, hc, Int.toNat_natCast, crcI]
theorem implCrc_f (l : List Int) (hb : ∀ x ∈ l, 0 ≤ x ∧ x ≤ 255) (hl : l.length ≤ 1048576) (k : Nat) (hk : 10 * l.length + 10 < k) : impl_Crc32.f k l = some (Go.bits .xor .u32 4294967295 ((crcI 4294967295 (nats l) : Nat) : Int)) := by
  unfold impl_Crc32.f
  exact implCrc_l0 l hb hl l.length 0 k 4294967295 (by omega) hk (by omega)
theorem implCrc_v (l : List Int) (hb : ∀ x ∈ l, 0 ≤ x ∧ x ≤ 255) (hl : l.length ≤ 1048576) (k : Nat) (hk : 10 * l.length + 10 < k) : impl_Crc32.f k l = some (crcV l) := by
  have hlt := crcI_lt (nats l) (nats_byt hb) 4294967295 (by omega)
  have e : (4294967295 : Int) = ((4294967295 : Nat) : Int) := rfl
  rw [implCrc_f l hb hl k hk, e, xor_nat _ _ (by omega) hlt, Nat.xor_comm 4294967295]
  rfl
theorem put32_l0 (v : Int) (at_ size : Nat) (h0 : 0 ≤ v) (h1 : v ≤ 9223372036854775807) (h8 : size ≤ 8) : ∀ (d i k : Nat) (x0 : List Int), i + d = size → d < k → at_ + size ≤ x0.length → x0.length ≤ 1048576 → impl_put_uint32.l0 k x0 (at_ : Int) v (size : Int) (i : Int) = some (x0.take (at_ + i) ++ leB (v / 256 ^ i) d ++ x0.drop (at_ + size))
  | 0, i, k, x0, e1, e2, e3, e4 => by
    obtain ⟨k, rfl⟩ := sucK e2
    simp only [impl_put_uint32.l0]
    rw [if_neg (by omega), show at_ + i = at_ + size by omega]
    simp [leB]
  | d + 1, i, k, x0, e1, e2, e3, e4 => by
    obtain ⟨k, rfl⟩ := sucK e2
    simp only [impl_put_uint32.l0]
    have hw : wrap64 ((at_ : Int) + (i : Int)) = ((at_ + i : Nat) : Int) := by unfold wrap64; omega
    have h8i : wrap64 (8 * (i : Int)) = ((8 * i : Nat) : Int) := by unfold wrap64; omega
    rw [hw, h8i, if_pos (by omega), if_pos (by omega), if_pos (by omega), if_pos (by omega), w64n (by omega), put32_l0 v at_ size h0 h1 h8 d (i + 1) k _ (by omega) (by omega) (by simpa using e3) (by simpa using e4)]
    have hv : (shr .u64 (IntKind.u64.wrap v) ((8 * i : Nat) : Int)) % 256 = v / 256 ^ i % 256 := by
      rw [wraps_u64 _ h0 (by omega)]
      unfold shr
      rw [Int.toNat_natCast, Nat.min_eq_left (by simp [IntKind.bits]; omega), Int.pow_mul, show (2 : Int) ^ 8 = 256 by decide]
    rw [hv, Int.toNat_natCast]
    congr 1
    have hlt : at_ + i < x0.length := by omega
    rw [show at_ + (i + 1) = (at_ + i) + 1 by omega, List.take_succ_eq_append_getElem (by simpa using hlt), List.getElem_set_self, List.take_set_of_le (Nat.le_refl _), List.drop_set_of_lt (by omega), leB, Int.ediv_ediv_of_nonneg (by have := p256 i; omega), ← Int.pow_succ]
    simp
/-- put: a number's bytes at a place -/
theorem put32_f (x0 : List Int) (at_ size : Nat) (v : Int) (h0 : 0 ≤ v) (h1 : v ≤ 9223372036854775807) (h8 : size ≤ 8) (hat : at_ + size ≤ x0.length) (hx : x0.length ≤ 1048576) (k : Nat) (hk : 8 < k) : impl_put_uint32.f k x0 (at_ : Int) (size : Int) v = some (x0.take at_ ++ leB v size ++ x0.drop (at_ + size)) := by
  unfold impl_put_uint32.f
  have h := put32_l0 v at_ size h0 h1 h8 size 0 k x0 (by omega) (by omega) hat hx
  rw [Int.pow_zero, Int.ediv_one] at h
  exact h
theorem impl_EncodeSnap.sealed {x : Int} {s : ByteArray} {p q : Int} {r : List Int} (hs : s.size ≤ 26) (hr : r.length = 15) : impl_sealed.f 6000 (snapBody x s p q r ++ List.replicate 392 0) = some (snapBytes x s p q r) := by
  have hb := snapFill_byt x s p q r
  have hl : (snapFill x s p q r).length = 508 := snapFill_length hs hr
  have hc := crcV_range hb
  have hbl : (snapBody x s p q r).length = 120 := snapBody_length hs hr
  have ht : (snapBody x s p q r ++ List.replicate 392 0).take 508 = snapFill x s p q r := by
    rw [List.take_append, List.take_of_length_le (by rw [hbl]; decide), hbl, List.take_replicate]
    rfl
  unfold impl_sealed.f
  rw [if_pos (by rw [List.length_append, hbl, List.length_replicate]; decide), ht, implCrc_v (snapFill x s p q r) hb (by rw [hl]; decide) 6000 (by rw [hl]; decide)]
  simp only [Option.bind_some]
  rw [show (508 : Int) = ((508 : Nat) : Int) from rfl, show (4 : Int) = ((4 : Nat) : Int) from rfl, put32_f _ 508 4 (crcV (snapFill x s p q r)) hc.1 (by omega) (by decide) (by rw [List.length_append, hbl, List.length_replicate]; decide) (by rw [List.length_append, hbl, List.length_replicate]; decide) 6000 (by decide)]
  simp only [Option.bind_some]
  rw [ht, List.drop_eq_nil_of_le (by rw [List.length_append, hbl, List.length_replicate]; decide), List.append_nil]
  rfl
set_option maxHeartbeats 8000000 in
set_option maxRecDepth 100000 in
theorem impl_EncodeSnap.calls (x : Int) (s : ByteArray) (p q : Int) (r : List Int) (nr : r.length = 15) (k : Nat) (c : Int) (hc : impl_CheckName.f k s = some c) (hsz : c = 0 → s.size ≤ 26) (r1 : List Int) (r2 : Int) (w : World) (hv : Kd.C (Kd.int .u8) w (some ⟨0, 0, none⟩) 8 magicS) (h : (if snapGood x c p q r = true then (snapBytes x s p q r, (0 : Int)) else ([], 7)) = (r1, r2)) :
    Calls Tryd.prog 12 #[.agg (snapC x s p q r).toArray] w fun e w' => ∃ v0_ : Value, e = .returned (.tuple #[v0_, .int .i64 r2]) ∧ Kd.R (Kd.int .u8) 5 w' w.heap.size (fun _ => True) v0_ r1 ∧ Below w.heap.size w w' := by
  have HV := Aside0.mk hv
  have NR := Aside0.mk nr
  have HC := Aside0.mk hc
  have HB0 : Aside0 (Below w.heap.size w w) := ⟨Below.refl _ _⟩
  obtain ⟨s0, Sz0⟩ : ∃ s0, Aside0 (w.heap.size = s0) := ⟨_, ⟨rfl⟩⟩
  have hw0 : w.heap.size ≤ s0 := Nat.le_of_eq Sz0.out
  have hw1 : s0 ≤ w.heap.size := Nat.le_of_eq Sz0.out.symm
  by_cases hgood : snapGood x c p q r = true
  case neg =>
    rw [if_neg hgood] at h
    obtain ⟨rfl, rfl⟩ := Prod.mk.inj h
    have HG := Aside0.mk (show impl_Snap_right.f x c p q r = some false by rw [show false = snapGood x c p q r by simpa using hgood]; rfl)
    clear hgood nr hv hc hsz h
    go_enter Tryd.func12, Tryd.ntmps12
    go_wp2_with (first | ((with_reducible refine gate_dst (N := 1) rfl ?_); refine hx_box rfl 1 rfl 33 (.tmp 0) rfl Sz0 (.agg (snapC x s p q r).toArray) (snapC x s p q r).toArray rfl (by simp [Value.cells]) ?_; intro w1 s1 L1 Sz1 b1_ g_; have H_1 := Aside0.mk g_; have HB1 := Aside0.mk (below_then HB0.out HB0.out.size b1_); clear g_ HB0 b1_) | ((with_reducible refine gate_dst (N := 5) rfl ?_); refine hx_load rfl 33 (.tmp 1) rfl s0 19 rfl Tryd.underlying33 rfl (by kernel_rfl) H_1.out (snapC_size NR.out) ?_) | ((with_reducible refine gate_dst (N := 6) rfl ?_); refine goesL_ (some 6) rfl rfl Tryd.func47 (by kernel_rfl) rfl #[.agg (snapC x s p q r).toArray] rfl (by (try simp only [List.map_toArray, List.map_cons, List.map_nil]); first | done | rfl) ?_; refine (impl_Snap_right.calls x s p q r NR.out k c HC.out false _ HG.out).mono ?_; rintro e_ w2 ⟨rfl, b_⟩; refine ⟨_, rfl, ?_⟩; have HB2 := Aside0.mk (below_then HB1.out HB1.out.size b_); have H_2 := Aside0.mk (blk_below H_1.out b_); obtain ⟨s2, L2, Sz2⟩ := size_letter Sz1 (kept_below b_); clear b_ HB1 H_1))
    go_ret2
    exact ⟨_, rfl, Kd.R_nil _ _ _ _ _, HB2.out⟩
  rw [if_pos hgood] at h
  obtain ⟨rfl, rfl⟩ := Prod.mk.inj h
  have HG := Aside0.mk (show impl_Snap_right.f x c p q r = some true by rw [← hgood]; rfl)
  obtain ⟨gx, gc, gp, gq, gr⟩ := snapGood_get hgood
  have hs26 := hsz gc
  have HSE := Aside0.mk (impl_EncodeSnap.sealed (x := x) (p := p) (q := q) hs26 nr)
  have GR := Aside0.mk gr
  have S26 := Aside0.mk hs26
  have info5_ : (Tryd.prog.info? 5).map (fun i => (i.zero, i.size, i.bytes)) = some (some (.int .u8 0), 1, 1) := by kernel_rfl
  clear hgood hv nr hc hsz h gx gc gp gq gr hs26
  go_enter Tryd.func12, Tryd.ntmps12
  go_wp2_with (first | ((with_reducible refine gate_dst (N := 1) rfl ?_); refine hx_box rfl 1 rfl 33 (.tmp 0) rfl Sz0 (.agg (snapC x s p q r).toArray) (snapC x s p q r).toArray rfl (by simp [Value.cells]) ?_; intro w1 s1 L1 Sz1 b1_ g_; have H_1 := Aside0.mk g_; have HB1 := Aside0.mk (below_then HB0.out HB0.out.size b1_); clear g_ HB0 b1_) | ((with_reducible refine gate_dst (N := 5) rfl ?_); refine hx_load rfl 33 (.tmp 1) rfl s0 19 rfl Tryd.underlying33 rfl (by kernel_rfl) H_1.out (snapC_size NR.out) ?_) | ((with_reducible refine gate_dst (N := 6) rfl ?_); refine goesL_ (some 6) rfl rfl Tryd.func47 (by kernel_rfl) rfl #[.agg (snapC x s p q r).toArray] rfl (by (try simp only [List.map_toArray, List.map_cons, List.map_nil]); first | done | rfl) ?_; refine (impl_Snap_right.calls x s p q r NR.out k c HC.out true _ HG.out).mono ?_; rintro e_ w2 ⟨rfl, b_⟩; refine ⟨_, rfl, ?_⟩; have HB2 := Aside0.mk (below_then HB1.out HB1.out.size b_); have H_2 := Aside0.mk (blk_below H_1.out b_); obtain ⟨s2, L2, Sz2⟩ := size_letter Sz1 (kept_below b_); clear b_ HB1 H_1) | ((with_reducible refine gate_dst (N := 8) rfl ?_); refine make_num rfl (N := 8) rfl 512 5 .u8 Sz2 ?hr ?_; (case hr => exact make_u8 28 5 512 _ _ rfl rfl rfl Tryd.underlying28 info5_ (by decide)); intro w3 s3 L3 Sz3 b_ g_; have HB3 := Aside0.mk (below_then HB2.out HB2.out.size b_); have H_3 := Aside0.mk (blk_below H_2.out b_); obtain ⟨Q0, hq0⟩ : ∃ Q, Q = List.replicate 512 (0 : Int) := ⟨_, rfl⟩; rw [← hq0] at g_; have HC_3 := Aside0.mk g_; have E0 := Aside0.mk hq0; have N0 := Aside0.mk (show Q0.length = 512 by rw [hq0]; simp); clear b_ g_ hq0 HB2 H_2) | ((with_reducible refine gate_dst (N := 11) rfl ?_); refine cp_num rfl (.tmp 9) (.tmp 10) 28 28 rfl 5 Tryd.underlying28 (by kernel_rfl) s2 0 512 512 (some ⟨0, 0, none⟩) 8 magicS Q0 rfl rfl HC_3.out (by decide) (by decide) (by rw [N0.out]; decide) (Kd.C_below HV.out (HB3.out)) ?_; intro w4 t_ g_; change w4.heap[s2]? = some (.cells (nums .u8 (Q0.take 0 ++ magicS ++ Q0.drop (0 + 8))).toArray 5 (0, 0)) at g_; have m_ := (MT.refl s2 w3).touch t_; obtain ⟨Q1, hq_⟩ : ∃ Q, Q = Q0.take (0) ++ magicS ++ Q0.drop (0 + 8) := ⟨_, rfl⟩; rw [← hq_] at g_; have N1 := Aside0.mk (show Q1.length = 512 by rw [hq_, List.length_append, List.length_append, List.length_take, List.length_drop, show magicS.length = 8 from rfl, N0.out]; (have := S26.out; first | decide | omega)); have E1 := Aside0.mk hq_; have HC_4 := Aside0.mk g_; have H_4 := Aside0.mk (m_.blk (show s0 ≠ s2 by omega) H_3.out); have M_4 := Aside0.mk m_; clear m_ g_ t_ hq_ HC_3 H_3) | ((with_reducible refine gate_dst (N := 14) rfl ?_); refine wpList_ld1 rfl 3 (.tmp 13) rfl s0 0 rfl (.int .i64 x) Tryd.underlying3 rfl H_4.out rfl ?_) | ((with_reducible refine gate_dst (N := 15) rfl ?_); refine goesL_ (some 15) rfl rfl Tryd.func48 (by kernel_rfl) rfl #[.slice (some ⟨s2, 0, none⟩) 512 512, .int .i64 8, .int .i64 1, .int .i64 x] rfl (by (try simp only [List.map_toArray, List.map_cons, List.map_nil]); first | done | rfl) ?_; refine (impl_put_int.raw s2 0 512 512 8 1 Q1 x w4 HC_4.out (by rw [N1.out]; decide) (by decide) (by decide) (by rw [N1.out]; decide)).mono ?_; rintro e_ w5 ⟨rfl, m_, g_⟩; refine ⟨_, rfl, ?_⟩; obtain ⟨Q2, hq_⟩ : ∃ Q, Q = Q1.take (0 + 8) ++ leB x 1 ++ Q1.drop (0 + 8 + 1) := ⟨_, rfl⟩; rw [← hq_] at g_; have N2 := Aside0.mk (show Q2.length = 512 by rw [hq_, List.length_append, List.length_append, List.length_take, List.length_drop, leB_length, N1.out]; (have := S26.out; first | decide | omega)); have E2 := Aside0.mk hq_; have HC_5 := Aside0.mk g_; have H_5 := Aside0.mk (m_.blk (show s0 ≠ s2 by omega) H_4.out); have M_5 := Aside0.mk (M_4.out.trans m_); clear m_ g_ hq_ HC_4 H_4 M_4) | ((with_reducible refine gate_dst (N := 18) rfl ?_); refine wpList_ld1 rfl 9 (.tmp 17) rfl s0 1 rfl (.string s) Tryd.underlying9 rfl H_5.out rfl ?_) | ((with_reducible refine gate_dst (N := 20) rfl ?_); refine goesL_ (some 20) rfl rfl Tryd.func48 (by kernel_rfl) rfl #[.slice (some ⟨s2, 0, none⟩) 512 512, .int .i64 9, .int .i64 1, .int .i64 ((s.size : Nat) : Int)] rfl (by (try simp only [List.map_toArray, List.map_cons, List.map_nil]); first | done | rfl) ?_; refine (impl_put_int.raw s2 0 512 512 9 1 Q2 ((s.size : Nat) : Int) w5 HC_5.out (by rw [N2.out]; decide) (by decide) (by decide) (by rw [N2.out]; decide)).mono ?_; rintro e_ w6 ⟨rfl, m_, g_⟩; refine ⟨_, rfl, ?_⟩; obtain ⟨Q3, hq_⟩ : ∃ Q, Q = Q2.take (0 + 9) ++ leB ((s.size : Nat) : Int) 1 ++ Q2.drop (0 + 9 + 1) := ⟨_, rfl⟩; rw [← hq_] at g_; have N3 := Aside0.mk (show Q3.length = 512 by rw [hq_, List.length_append, List.length_append, List.length_take, List.length_drop, leB_length, N2.out]; (have := S26.out; first | decide | omega)); have E3 := Aside0.mk hq_; have HC_6 := Aside0.mk g_; have H_6 := Aside0.mk (m_.blk (show s0 ≠ s2 by omega) H_5.out); have M_6 := Aside0.mk (M_5.out.trans m_); clear m_ g_ hq_ HC_5 H_5 M_5))
  (try simp only [Act.put, List.setIfInBounds_toArray, List.set_cons_succ, List.set_cons_zero])
  refine PrintQTail.wp_region_quiet_tail 4 (by kernel_rfl) (by kernel_rfl) ?_
  simp only [List.take_succ_cons, List.take_zero, List.drop_succ_cons, List.drop_zero]
  quiet_step (fail)
  quiet_step (fail)
  quiet_step (fail)
  refine quiet_ld1 rfl 9 (.tmp 23) rfl s0 1 rfl (.string s) Tryd.underlying9 rfl H_6.out rfl ?_
  refine wpQuiet_nil ?_
  intro w_ hw_
  obtain ⟨nq7, rfl⟩ := hw_
  go_wp2_with (first | ((with_reducible refine gate_dst (N := 25) rfl ?_); refine cp_str rfl (.tmp 22) (.tmp 24) 28 9 rfl 5 Tryd.underlying28 (by kernel_rfl) s2 10 502 502 s Q3 rfl rfl (blk_drewN HC_6.out _) (by have := S26.out; omega) (by rw [N3.out]; have := S26.out; omega) ?_; intro w7 t_ g_; have m_ := ((MT.refl s2 w6).then_ (pw_below_drewN (Below.refl _ _) nq7)).trans ((MT.refl s2 _).touch t_); obtain ⟨Q4, hq_⟩ : ∃ Q, Q = Q3.take (10) ++ bytesOf s ++ Q3.drop (10 + s.size) := ⟨_, rfl⟩; rw [← hq_] at g_; have N4 := Aside0.mk (show Q4.length = 512 by rw [hq_, List.length_append, List.length_append, List.length_take, List.length_drop, bytesOf_length, N3.out]; (have := S26.out; first | decide | omega)); have E4 := Aside0.mk hq_; have HC_7 := Aside0.mk g_; have H_7 := Aside0.mk (m_.blk (show s0 ≠ s2 by omega) H_6.out); have M_7 := Aside0.mk (M_6.out.trans m_); clear m_ g_ t_ hq_ HC_6 H_6 M_6) | ((with_reducible refine gate_dst (N := 28) rfl ?_); refine wpList_ld1 rfl 3 (.tmp 27) rfl s0 2 rfl (.int .i64 p) Tryd.underlying3 rfl H_7.out rfl ?_) | ((with_reducible refine gate_dst (N := 29) rfl ?_); refine goesL_ (some 29) rfl rfl Tryd.func48 (by kernel_rfl) rfl #[.slice (some ⟨s2, 0, none⟩) 512 512, .int .i64 40, .int .i64 8, .int .i64 p] rfl (by (try simp only [List.map_toArray, List.map_cons, List.map_nil]); first | done | rfl) ?_; refine (impl_put_int.raw s2 0 512 512 40 8 Q4 p w7 HC_7.out (by rw [N4.out]; decide) (by decide) (by decide) (by rw [N4.out]; decide)).mono ?_; rintro e_ w8 ⟨rfl, m_, g_⟩; refine ⟨_, rfl, ?_⟩; obtain ⟨Q5, hq_⟩ : ∃ Q, Q = Q4.take (0 + 40) ++ leB p 8 ++ Q4.drop (0 + 40 + 8) := ⟨_, rfl⟩; rw [← hq_] at g_; have N5 := Aside0.mk (show Q5.length = 512 by rw [hq_, List.length_append, List.length_append, List.length_take, List.length_drop, leB_length, N4.out]; (have := S26.out; first | decide | omega)); have E5 := Aside0.mk hq_; have HC_8 := Aside0.mk g_; have H_8 := Aside0.mk (m_.blk (show s0 ≠ s2 by omega) H_7.out); have M_8 := Aside0.mk (M_7.out.trans m_); clear m_ g_ hq_ HC_7 H_7 M_7) | ((with_reducible refine gate_dst (N := 32) rfl ?_); refine wpList_ld1 rfl 3 (.tmp 31) rfl s0 3 rfl (.int .i64 q) Tryd.underlying3 rfl H_8.out rfl ?_) | ((with_reducible refine gate_dst (N := 33) rfl ?_); refine goesL_ (some 33) rfl rfl Tryd.func48 (by kernel_rfl) rfl #[.slice (some ⟨s2, 0, none⟩) 512 512, .int .i64 48, .int .i64 8, .int .i64 q] rfl (by (try simp only [List.map_toArray, List.map_cons, List.map_nil]); first | done | rfl) ?_; refine (impl_put_int.raw s2 0 512 512 48 8 Q5 q w8 HC_8.out (by rw [N5.out]; decide) (by decide) (by decide) (by rw [N5.out]; decide)).mono ?_; rintro e_ w9 ⟨rfl, m_, g_⟩; refine ⟨_, rfl, ?_⟩; obtain ⟨Q6, hq_⟩ : ∃ Q, Q = Q5.take (0 + 48) ++ leB q 8 ++ Q5.drop (0 + 48 + 8) := ⟨_, rfl⟩; rw [← hq_] at g_; have N6 := Aside0.mk (show Q6.length = 512 by rw [hq_, List.length_append, List.length_append, List.length_take, List.length_drop, leB_length, N5.out]; (have := S26.out; first | decide | omega)); have E6 := Aside0.mk hq_; have HC_9 := Aside0.mk g_; have H_9 := Aside0.mk (m_.blk (show s0 ≠ s2 by omega) H_8.out); have M_9 := Aside0.mk (M_8.out.trans m_); clear m_ g_ hq_ HC_8 H_8 M_8))
  (try simp only [Act.put, List.setIfInBounds_toArray, List.set_cons_succ, List.set_cons_zero])
  refine PrintQTail.wp_region_quiet_tail 4 (by kernel_rfl) (by kernel_rfl) ?_
  simp only [List.take_succ_cons, List.take_zero, List.drop_succ_cons, List.drop_zero]
  quiet_step (fail)
  refine quiet_load_at rfl 31 (.tmp 34) rfl ⟨s0, 4, none⟩ rfl r 15 Tryd.underlying31 rfl (by kernel_rfl) NR.out (fun i hi => by rw [show (⟨s0, 4, none⟩ : Addr).add i = ⟨s0, 4 + i, none⟩ by unfold Addr.add; split <;> simp_all]; exact (blk_cell H_9.out (4 + i)).trans (snapC_rcell NR.out i hi)) ?_
  quiet_step (fail)
  quiet_step (fail)
  refine wpQuiet_nil ?_
  intro w_ hw_
  obtain ⟨nq10, rfl⟩ := hw_
  go_wp2_with (first | ((with_reducible refine gate_dst (N := 38) rfl ?_); refine goesL_ (some 38) rfl rfl Tryd.func49 (by kernel_rfl) rfl #[.agg (nums .i64 r).toArray, .slice (some ⟨s2, 56, none⟩) 456 456] rfl (by (try simp only [List.map_toArray, List.map_cons, List.map_nil]); first | done | rfl) ?_; refine (impl_Root_put.raw r NR.out GR.out s2 56 456 456 Q6 _ (blk_drewN HC_9.out _) (by rw [N6.out]; decide) (by decide) (by rw [N6.out]; decide)).mono ?_; rintro e_ w10 ⟨rfl, m_, g_⟩; refine ⟨_, rfl, ?_⟩; obtain ⟨Q7, hq_⟩ : ∃ Q, Q = Q6.take (56) ++ rootBytes r ++ Q6.drop (56 + 64) := ⟨_, rfl⟩; rw [← hq_] at g_; have N7 := Aside0.mk (show Q7.length = 512 by rw [hq_, List.length_append, List.length_append, List.length_take, List.length_drop, rootBytes_length NR.out, N6.out]; (have := S26.out; first | decide | omega)); have E7 := Aside0.mk hq_; have m2_ := ((MT.refl s2 w9).then_ (pw_below_drewN (Below.refl _ _) nq10)).trans m_; have M_10 := Aside0.mk (M_9.out.trans m2_); have hfin := snap_puts (x := x) (s := s) (p := p) (q := q) (r := r) (Q0 := Q0) (Q1 := Q1) (Q2 := Q2) (Q3 := Q3) (Q4 := Q4) (Q5 := Q5) (Q6 := Q6) (Q7 := Q7) S26.out NR.out E0.out E1.out E2.out E3.out E4.out E5.out E6.out E7.out; rw [hfin] at g_; have HF_ := Aside0.mk (own_blk (B := w.heap.size) g_ (by omega) (by rw [List.length_append, snapBody_length S26.out NR.out, List.length_replicate]; decide)); have HBF := Aside0.mk (M_10.out.below HB3.out HB3.out.size (by omega)); clear m_ m2_ g_ hq_ hfin HC_9 M_9 M_10 H_9 HB3) | ((with_reducible refine gate_dst (N := 40) rfl ?_); refine goesL_ (some 40) rfl rfl Tryd.func50 (by kernel_rfl) rfl #[.slice (some ⟨s2, 0, none⟩) 512 512] rfl (by (try simp only [List.map_toArray, List.map_cons, List.map_nil]); first | done | rfl) ?_; have ho_ := HF_.out; rw [show (snapBody x s p q r ++ List.replicate 392 (0 : Int)).length = 512 by rw [List.length_append, snapBody_length S26.out NR.out, List.length_replicate]] at ho_; refine (impl_sealed.calls 6000 (fun _ => True) _ _ _ w _ HBF.out ho_ HSE.out).mono ?_; rintro e_ w16 ⟨v66, rfl, R_, b_, k_⟩; refine ⟨_, rfl, ?_⟩; have O66 := Aside0.mk (Kd.R_mono (ok' := fun _ => True) R_ (fun _ _ => trivial)); have HB16 := Aside0.mk b_; clear R_ b_ k_ ho_))
  go_ret2
  exact ⟨_, rfl, O66.out, HB16.out⟩

/-! ### laws_eqByteS: function 13 -/
def laws_eqByteS.l0 : Nat → List Int → List Int → Int → Option (Bool)
  | 0, _, _, _ => none
  | k + 1, x0, x1, x5 => if x5 < (x0.length : Int) then (if 0 ≤ x5 then (if x5 < (x1.length : Int) then (if (rd x0 x5) = (rd x1 x5) then (laws_eqByteS.l0 k x0 x1 (wrap64 (x5 + 1))) else (some false)) else (none)) else (none)) else (some true)
def laws_eqByteS.f (k : Nat) (l0 : List Int) (l1 : List Int) : Option (Bool) := if (l0.length : Int) = (l1.length : Int) then (laws_eqByteS.l0 k l0 l1 0) else (some false)
theorem laws_eqByteS.mono_l : ∀ k, (∀ y0 y1 y2, LeO (laws_eqByteS.l0 k y0 y1 y2) (laws_eqByteS.l0 (k + 1) y0 y1 y2))
  | 0 => fun _ _ _ r h => by simp [laws_eqByteS.l0] at h
  | k + 1 => by
    have ih0 := laws_eqByteS.mono_l k
    · intro y0 y1 y2
      unfold laws_eqByteS.l0
      repeat' first
      | (with_reducible exact ih0 _ _ _)
      | (with_reducible exact LeO.refl _)
      | (with_reducible exact LeO.none _)
      | (with_reducible refine LeO.ite ?_ ?_)
      | (with_reducible refine LeO.bind ?_ (fun _ => ?_))
      | exact ih0 _ _ _
      | exact LeO.none _
      | refine LeO.ite ?_ ?_
      | refine LeO.bind ?_ (fun _ => ?_)
theorem laws_eqByteS.mono : ∀ a0 a1 k, LeO (laws_eqByteS.f k a0 a1) (laws_eqByteS.f (k + 1) a0 a1) := by
  intro a0 a1 k
  have ih0 := laws_eqByteS.mono_l k
  unfold laws_eqByteS.f
  repeat' first
      | (with_reducible exact ih0 _ _ _)
      | (with_reducible exact LeO.refl _)
      | (with_reducible exact LeO.none _)
      | (with_reducible refine LeO.ite ?_ ?_)
      | (with_reducible refine LeO.bind ?_ (fun _ => ?_))
      | exact ih0 _ _ _
      | exact LeO.none _
      | refine LeO.ite ?_ ?_
      | refine LeO.bind ?_ (fun _ => ?_)
set_option maxHeartbeats 8000000 in
set_option maxRecDepth 100000 in
theorem laws_eqByteS.calls (k : Nat) (A0 : Option Addr) (c0 : Nat) (l0 : List Int) (A1 : Option Addr) (c1 : Nat) (l1 : List Int) (r : Bool) (w : World) (hr0 : Kd.C (Kd.int .u8) w A0 l0.length l0) (hc0 : l0.length ≤ c0) (hr1 : Kd.C (Kd.int .u8) w A1 l1.length l1) (hc1 : l1.length ≤ c1) (h : laws_eqByteS.f k l0 l1 = some r) :
    Calls Tryd.prog 13 #[.slice A0 l0.length c0, .slice A1 l1.length c1] w fun e w' => e = .returned (.bool r) ∧ Drawn0 w w' := by
  have HR0 := Aside0.mk hr0
  have HC0 := Aside0.mk hc0
  clear hr0 hc0
  have HR1 := Aside0.mk hr1
  have HC1 := Aside0.mk hc1
  clear hr1 hc1
  have H : (if (l0.length : Int) = (l1.length : Int) then (laws_eqByteS.l0 k l0 l1 0) else (some false)) = some r := h
  clear h
  by_cases c3 : (l0.length : Int) = (l1.length : Int)
  · rw [if_pos c3] at H
    have c3b0 : ((l0.length : Int) == (l1.length : Int)) = true := beq_iff_eq.mpr c3
    have c3b1 : ((l0.length : Int) != (l1.length : Int)) = false := bne_eq_false_iff_eq.mpr c3
    have c3b2 : (l0.length == l1.length) = true := by first | simpa using c3 | (simp at c3 ⊢; omega)
    clear c3
    have H' := Aside0.mk H
    clear H
    go_enter Tryd.func13, Tryd.ntmps13
    go_wp2
    repeat (go_quiet (fail); try go_wp2)
    go_loopg [5] k (fun kq v5 w' => ∃ (x5_1 : Int), v5 = .int .i64 x5_1 ∧ Aside0 (laws_eqByteS.l0 kq l0 l1 x5_1 = some r) ∧ Aside0 (kq ≤ k) ∧ Drawn0 w w')
    case atStart => exact ⟨(0), (by first | rfl | (simp; done) | (simp [*]; done)), H', ⟨Nat.le_refl _⟩, by repeat (first | exact Drawn0.refl _ | apply Drawn0.step)⟩
    case round =>
      clear H'
      try clear c1
      try clear p2
      try clear c3
      try clear c3b0
      try clear c3b1
      try clear c3b2
      obtain ⟨x5_1, rfl, HA, HK1, ⟨m1, rfl⟩⟩ := hrel
      cases gk with
      | zero => exact absurd HA.out (by simp [laws_eqByteS.l0])
      | succ k1 =>
        have H := HA.out
        clear HA
        simp only [laws_eqByteS.l0] at H
        by_cases c4 : x5_1 < (l0.length : Int)
        · rw [if_pos c4] at H
          have c4b0 : decide (x5_1 < (l0.length : Int)) = true := decide_eq_true c4
          clear c4
          by_cases c5 : 0 ≤ x5_1
          · rw [if_pos c5] at H
            have c5b0 : decide (0 ≤ x5_1) = true := decide_eq_true c5
            clear c5
            by_cases c6 : x5_1 < (l1.length : Int)
            · rw [if_pos c6] at H
              have c6b0 : decide (x5_1 < (l1.length : Int)) = true := decide_eq_true c6
              clear c6
              by_cases c7 : (rd l0 x5_1) = (rd l1 x5_1)
              · rw [if_pos c7] at H
                have c7b0 : ((rd l0 x5_1) == (rd l1 x5_1)) = true := beq_iff_eq.mpr c7
                have c7b1 : ((rd l0 x5_1) != (rd l1 x5_1)) = false := bne_eq_false_iff_eq.mpr c7
                clear c7
                have H' := Aside0.mk H
                clear H
                have p145 : 0 ≤ (x5_1 : Int) := of_decide_eq_true (by first | (with_reducible assumption) | assumption)
                have q145 : x5_1 < (l0.length : Int) := of_decide_eq_true (by first | (with_reducible assumption) | assumption)
                obtain ⟨ad145, e145, hx145_0⟩ := Kd.at_int HR0.out x5_1 p145 q145
                cases e145
                replace p145 := eq_true p145
                replace q145 := eq_true q145
                have p146 : 0 ≤ (x5_1 : Int) := of_decide_eq_true (by first | (with_reducible assumption) | assumption)
                have q146 : x5_1 < (l1.length : Int) := of_decide_eq_true (by first | (with_reducible assumption) | assumption)
                obtain ⟨ad146, e146, hx146_0⟩ := Kd.at_int HR1.out x5_1 p146 q146
                cases e146
                replace p146 := eq_true p146
                replace q146 := eq_true q146
                go_wp2
                repeat (go_quiet (fail); try go_wp2)
                go_roundg k1
                case measure => have := HK1.out; omega
                case rel => exact ⟨(wrap64 (x5_1 + 1)), (by first | rfl | (simp; done) | (simp [*]; done)), H', ⟨by have := HK1.out; omega⟩, by repeat (first | exact Drawn0.refl _ | apply Drawn0.step)⟩
              · rw [if_neg c7] at H
                have c7b0 : ((rd l0 x5_1) == (rd l1 x5_1)) = false := beq_eq_false_iff_ne.mpr c7
                have c7b1 : ((rd l0 x5_1) != (rd l1 x5_1)) = true := bne_iff_ne.mpr c7
                obtain rfl := Option.some.inj H
                have p145 : 0 ≤ (x5_1 : Int) := of_decide_eq_true (by first | (with_reducible assumption) | assumption)
                have q145 : x5_1 < (l0.length : Int) := of_decide_eq_true (by first | (with_reducible assumption) | assumption)
                obtain ⟨ad145, e145, hx145_0⟩ := Kd.at_int HR0.out x5_1 p145 q145
                cases e145
                replace p145 := eq_true p145
                replace q145 := eq_true q145
                have p146 : 0 ≤ (x5_1 : Int) := of_decide_eq_true (by first | (with_reducible assumption) | assumption)
                have q146 : x5_1 < (l1.length : Int) := of_decide_eq_true (by first | (with_reducible assumption) | assumption)
                obtain ⟨ad146, e146, hx146_0⟩ := Kd.at_int HR1.out x5_1 p146 q146
                cases e146
                replace p146 := eq_true p146
                replace q146 := eq_true q146
                go_wp2
                repeat (go_quiet (fail); try go_wp2)
                go_ret
                exact ⟨by first | rfl | (simp; done) | (simp [*]; done), by repeat (first | exact Drawn0.refl _ | apply Drawn0.step)⟩
            · rw [if_neg c6] at H
              exact absurd H (by simp)
          · rw [if_neg c5] at H
            exact absurd H (by simp)
        · rw [if_neg c4] at H
          have c4b0 : decide (x5_1 < (l0.length : Int)) = false := decide_eq_false c4
          clear c4
          obtain rfl := Option.some.inj H
          go_wp2
          repeat (go_quiet (fail); try go_wp2)
          go_ret
          exact ⟨by first | rfl | (simp; done) | (simp [*]; done), by repeat (first | exact Drawn0.refl _ | apply Drawn0.step)⟩
  · rw [if_neg c3] at H
    have c3b0 : ((l0.length : Int) == (l1.length : Int)) = false := beq_eq_false_iff_ne.mpr c3
    have c3b1 : ((l0.length : Int) != (l1.length : Int)) = true := bne_iff_ne.mpr c3
    have c3b2 : (l0.length == l1.length) = false := by first | simpa using c3 | (simp at c3 ⊢; omega)
    obtain rfl := Option.some.inj H
    go_enter Tryd.func13, Tryd.ntmps13
    go_wp2
    repeat (go_quiet (fail); try go_wp2)
    go_ret
    exact ⟨by first | rfl | (simp; done) | (simp [*]; done), by repeat (first | exact Drawn0.refl _ | apply Drawn0.step)⟩

/-! ### laws_markByteS: function 14 -/
def laws_markByteS.l0 : Nat → List Int → Int → Int → Option (Int × List Int)
  | 0, _, _, _ => none
  | k + 1, x0, x1, x5 => if x5 < (x0.length : Int) then (if 0 ≤ x5 then (laws_markByteS.l0 k (x0.set (x5 : Int).toNat ((x1) % 256)) (wrap64 (x1 + 1)) (wrap64 (x5 + 1))) else (none)) else (some (x1, x0))
def laws_markByteS.f (k : Nat) (l0 : List Int) (a1 : Int) : Option (Int × List Int) := laws_markByteS.l0 k l0 a1 0
theorem laws_markByteS.mono_l : ∀ k, (∀ y0 y1 y2, LeO (laws_markByteS.l0 k y0 y1 y2) (laws_markByteS.l0 (k + 1) y0 y1 y2))
  | 0 => fun _ _ _ r h => by simp [laws_markByteS.l0] at h
  | k + 1 => by
    have ih0 := laws_markByteS.mono_l k
    · intro y0 y1 y2
      unfold laws_markByteS.l0
      repeat' first
      | (with_reducible exact ih0 _ _ _)
      | (with_reducible exact LeO.refl _)
      | (with_reducible exact LeO.none _)
      | (with_reducible refine LeO.ite ?_ ?_)
      | (with_reducible refine LeO.bind ?_ (fun _ => ?_))
      | exact ih0 _ _ _
      | exact LeO.none _
      | refine LeO.ite ?_ ?_
      | refine LeO.bind ?_ (fun _ => ?_)
theorem laws_markByteS.mono : ∀ a0 a1 k, LeO (laws_markByteS.f k a0 a1) (laws_markByteS.f (k + 1) a0 a1) := by
  intro a0 a1 k
  have ih0 := laws_markByteS.mono_l k
  unfold laws_markByteS.f
  repeat' first
      | (with_reducible exact ih0 _ _ _)
      | (with_reducible exact LeO.refl _)
      | (with_reducible exact LeO.none _)
      | (with_reducible refine LeO.ite ?_ ?_)
      | (with_reducible refine LeO.bind ?_ (fun _ => ?_))
      | exact ih0 _ _ _
      | exact LeO.none _
      | refine LeO.ite ?_ ?_
      | refine LeO.bind ?_ (fun _ => ?_)
set_option maxHeartbeats 8000000 in
set_option maxRecDepth 100000 in
theorem laws_markByteS.calls (k : Nat) (P0_ : Nat → Prop) (u9000_ : Value) (l0 : List Int) (a1 : Int) (r1 : Int) (r2 : List Int) (w0 w : World) (hB : Below w0.heap.size w0 w) (ho0 : Kd.R (Kd.int .u8) 5 w w0.heap.size P0_ u9000_ l0) (h : laws_markByteS.f k l0 a1 = some (r1, r2)) :
    Calls Tryd.prog 14 #[u9000_, .int .i64 a1] w fun e w' => e = .returned (.int .i64 r1) ∧ Kd.R (Kd.int .u8) 5 w' w0.heap.size (fun k_ => (P0_ k_ ∨ w.heap.size ≤ k_)) u9000_ r2 ∧ Below w0.heap.size w0 w' ∧ Kept w w' (fun k_ => P0_ k_) := by
  have HO0 := Aside0.mk (show Kd.R (Kd.int .u8) 5 w w0.heap.size (fun k_ => (P0_ k_ ∨ w.heap.size ≤ k_)) u9000_ l0 from Kd.R_mono ho0 (fun k_ hk => (.inl hk)))
  have HK := Aside0.mk (Kept.refl w (fun k_ => P0_ k_))
  have HW0 := Aside0.mk hB.size
  have HB := Aside0.mk hB
  clear hB
  have H : (laws_markByteS.l0 k l0 a1 0) = some (r1, r2) := h
  clear h
  have H' := Aside0.mk H
  clear H
  go_enter Tryd.func14, Tryd.ntmps14
  go_wp2
  go_loopg [1, 5] k (fun kq v1 v5 w' => ∃ (x0_1 : List Int) (x1_1 : Int) (x5_1 : Int), v1 = .int .i64 x1_1 ∧ v5 = .int .i64 x5_1 ∧ Aside0 (laws_markByteS.l0 kq x0_1 x1_1 x5_1 = some (r1, r2)) ∧ Aside0 (kq ≤ k) ∧ Aside0 (Kd.R (Kd.int .u8) 5 w' w0.heap.size (fun k_ => (P0_ k_ ∨ w.heap.size ≤ k_)) u9000_ x0_1) ∧ Aside0 (Kept w w' (fun k_ => P0_ k_)) ∧ Aside0 (Below w0.heap.size w0 w'))
  case atStart => exact ⟨(l0), (a1), (0), (by first | rfl | (simp; done) | (simp [*]; done)), (by first | rfl | (simp; done) | (simp [*]; done)), H', ⟨Nat.le_refl _⟩, ⟨by (with_reducible repeat (first | apply Kd.R_alloc | apply Kd.R_drewN | apply Kd.R_drew)); exact HO0.out⟩, ⟨by repeat (first | (with_reducible first | exact HK.out | apply Kept.alloc | apply Kept.drewN | apply Kept.drew) | exact HK.out)⟩, ⟨by repeat (first | (with_reducible first | exact HB.out | apply below_alloc | apply pw_below_drewN | apply below_drew1) | exact HB.out)⟩⟩
  case round =>
    clear H'
    try clear c1
    try clear p2
    obtain ⟨x0_1, x1_1, x5_1, rfl, rfl, HA, HK1, HO_0, HK, HB⟩ := hrel
    cases gk with
    | zero => exact absurd HA.out (by simp [laws_markByteS.l0])
    | succ k1 =>
      have H := HA.out
      clear HA
      simp only [laws_markByteS.l0] at H
      by_cases c3 : x5_1 < (x0_1.length : Int)
      · rw [if_pos c3] at H
        have c3b0 : decide (x5_1 < (x0_1.length : Int)) = true := decide_eq_true c3
        clear c3
        by_cases c4 : 0 ≤ x5_1
        · rw [if_pos c4] at H
          have c4b0 : decide (0 ≤ x5_1) = true := decide_eq_true c4
          clear c4
          obtain ⟨y147, hy147⟩ : ∃ y_ : List Int, y_ = (x0_1.set (x5_1 : Int).toNat ((x1_1) % 256)) := ⟨_, rfl⟩
          replace H : (laws_markByteS.l0 k1 y147 (wrap64 (x1_1 + 1)) (wrap64 (x5_1 + 1))) = some (r1, r2) := by first | (rw [hy147]; with_reducible exact H) | (have H2_ := (Option.bind_some _ _).symm.trans H; rw [hy147]; with_reducible exact H2_) | (have H2_ := (Option.bind_some _ _).symm.trans H; with_reducible exact H2_) | with_reducible exact H | (rw [hy147]; exact H) | exact H
          have Ny147 := Aside0.mk hy147
          clear hy147
          have H' := Aside0.mk H
          clear H
          obtain ⟨Ao6, co6, eo6⟩ := Kd.R_slice HO_0.out
          subst eo6
          have p5 : 0 ≤ (x5_1 : Int) := of_decide_eq_true (by first | (with_reducible assumption) | assumption)
          have q5 : (x5_1 : Int) < ((x0_1.length : Int) : Int) := of_decide_eq_true (by first | (with_reducible assumption) | assumption)
          obtain ⟨go5, co5, eo5, gb5, gl5, cl5, HG5⟩ := Kd.R_form HO_0.out (by omega)
          (first | cases eo5 | (injection eo5 with ea_ en_ ec_; (first | subst ea_ | (injection ea_ with ea_; subst ea_)); subst ec_; clear en_))
          have GB5 := Aside0.mk gb5
          have GG5 := Aside0.mk HG5
          clear gb5 gl5 HG5
          have HMgo5 := Aside0.mk (show (P0_ go5 ∨ w.heap.size ≤ go5) from (HO_0.out.1 _ rfl))
          obtain ⟨hx5_0, hf5_0⟩ := Kd.R_celln 0 HO_0.out (x5_1 : Int) p5 q5
          replace p5 := eq_true p5
          replace q5 := eq_true q5
          have HP7 := Kd.R_putg HO_0.out (x5_1 : Int) ((x1_1) % 256)
          go_wp2_with (first | ((with_reducible refine gate_store (t := 5) (p := 16) rfl ?_); refine store_event (t := 5) (p := 16) (v := ?vo_w8) (w1 := (wr.setCell ⟨go5, (x5_1 : Int).toNat, none⟩ (.int .u8 ((x1_1) % 256)))) ?hg ?ho ?hn ?hr ?_; (case ho => rfl); (case hg => rfl); (case hn => rfl); (case hr => first | (go_simp; done) | (go_simp; rfl)); intro w8 hw; have hg : wr.grownBy w8 (some go5) := (by rw [hw]; exact HP7.2); have hp_ : Kd.R (Kd.int .u8) 5 w8 w0.heap.size (fun k_ => (P0_ k_ ∨ w.heap.size ≤ k_)) (.slice (some ⟨go5, 0, none⟩) x0_1.length co6) y147 := (by rw [hw, Ny147.out]; exact HP7.1); clear HP7; have n0_ := Aside0.mk (hp_); have n1_ := Aside0.mk ((by rw [hw]; exact below_set (HB.out) GB5.out : Below w0.heap.size w0 w8)); have n2_ := Aside0.mk (Kept.of_grown (S := (fun k_ => P0_ k_)) hg (by repeat (first | (with_reducible first | exact HK.out | apply Kept.alloc | apply Kept.drewN | apply Kept.drew) | exact HK.out)) (fun k_ e_ => (HO_0.out.1 k_ e_))); clear HO_0; clear HB; clear HK; have HO_0 := n0_; have HB := n1_; have HK := n2_; clear n0_ n1_ n2_; clear hg hw hp_))
          go_roundg k1
          case measure => have := HK1.out; omega
          case rel => exact ⟨(y147), (wrap64 (x1_1 + 1)), (wrap64 (x5_1 + 1)), (by first | rfl | (simp; done) | (simp [*]; done)), (by first | rfl | (simp; done) | (simp [*]; done)), H', ⟨by have := HK1.out; omega⟩, ⟨by (with_reducible repeat (first | apply Kd.R_alloc | apply Kd.R_drewN | apply Kd.R_drew)); exact HO_0.out⟩, ⟨by repeat (first | (with_reducible first | exact HK.out | apply Kept.alloc | apply Kept.drewN | apply Kept.drew) | exact HK.out)⟩, ⟨by repeat (first | (with_reducible first | exact HB.out | apply below_alloc | apply pw_below_drewN | apply below_drew1) | exact HB.out)⟩⟩
        · rw [if_neg c4] at H
          exact absurd H (by simp)
      · rw [if_neg c3] at H
        have c3b0 : decide (x5_1 < (x0_1.length : Int)) = false := decide_eq_false c3
        clear c3
        simp only [Option.some.injEq, Prod.mk.injEq] at H
        obtain ⟨rfl, rfl⟩ := H
        obtain ⟨Ao9, co9, eo9⟩ := Kd.R_slice HO_0.out
        subst eo9
        go_wp2
        go_ret
        exact ⟨by first | rfl | (simp [errW_none, errW_some] <;> rfl) | (simp [*, errW_none, errW_some] <;> rfl), by (with_reducible repeat (first | apply Kd.R_alloc | apply Kd.R_drewN | apply Kd.R_drew)); exact HO_0.out, by repeat (first | (with_reducible first | exact HB.out | apply below_alloc | apply pw_below_drewN | apply below_drew1) | exact HB.out), by repeat (first | (with_reducible first | exact HK.out | apply Kept.alloc | apply Kept.drewN | apply Kept.drew) | exact HK.out)⟩

/-! ### laws_heldByteS: function 15 -/
def laws_heldByteS.l0 : Nat → List Int → Int → Int → Option (Int)
  | 0, _, _, _ => none
  | k + 1, x0, x1, x5 => if x5 < (x0.length : Int) then (if 0 ≤ x5 then (if (rd x0 x5) = ((x1) % 256) then (laws_heldByteS.l0 k x0 (wrap64 (x1 + 1)) (wrap64 (x5 + 1))) else (some (-1))) else (none)) else (some x1)
def laws_heldByteS.f (k : Nat) (l0 : List Int) (a1 : Int) : Option (Int) := laws_heldByteS.l0 k l0 a1 0
theorem laws_heldByteS.mono_l : ∀ k, (∀ y0 y1 y2, LeO (laws_heldByteS.l0 k y0 y1 y2) (laws_heldByteS.l0 (k + 1) y0 y1 y2))
  | 0 => fun _ _ _ r h => by simp [laws_heldByteS.l0] at h
  | k + 1 => by
    have ih0 := laws_heldByteS.mono_l k
    · intro y0 y1 y2
      unfold laws_heldByteS.l0
      repeat' first
      | (with_reducible exact ih0 _ _ _)
      | (with_reducible exact LeO.refl _)
      | (with_reducible exact LeO.none _)
      | (with_reducible refine LeO.ite ?_ ?_)
      | (with_reducible refine LeO.bind ?_ (fun _ => ?_))
      | exact ih0 _ _ _
      | exact LeO.none _
      | refine LeO.ite ?_ ?_
      | refine LeO.bind ?_ (fun _ => ?_)
theorem laws_heldByteS.mono : ∀ a0 a1 k, LeO (laws_heldByteS.f k a0 a1) (laws_heldByteS.f (k + 1) a0 a1) := by
  intro a0 a1 k
  have ih0 := laws_heldByteS.mono_l k
  unfold laws_heldByteS.f
  repeat' first
      | (with_reducible exact ih0 _ _ _)
      | (with_reducible exact LeO.refl _)
      | (with_reducible exact LeO.none _)
      | (with_reducible refine LeO.ite ?_ ?_)
      | (with_reducible refine LeO.bind ?_ (fun _ => ?_))
      | exact ih0 _ _ _
      | exact LeO.none _
      | refine LeO.ite ?_ ?_
      | refine LeO.bind ?_ (fun _ => ?_)
set_option maxHeartbeats 8000000 in
set_option maxRecDepth 100000 in
theorem laws_heldByteS.calls (k : Nat) (A0 : Option Addr) (c0 : Nat) (l0 : List Int) (a1 : Int) (r : Int) (w : World) (hr0 : Kd.C (Kd.int .u8) w A0 l0.length l0) (hc0 : l0.length ≤ c0) (h : laws_heldByteS.f k l0 a1 = some r) :
    Calls Tryd.prog 15 #[.slice A0 l0.length c0, .int .i64 a1] w fun e w' => e = .returned (.int .i64 r) ∧ Drawn0 w w' := by
  have HR0 := Aside0.mk hr0
  have HC0 := Aside0.mk hc0
  clear hr0 hc0
  have H : (laws_heldByteS.l0 k l0 a1 0) = some r := h
  clear h
  have H' := Aside0.mk H
  clear H
  go_enter Tryd.func15, Tryd.ntmps15
  go_wp2
  go_loopg [1, 5] k (fun kq v1 v5 w' => ∃ (x1_1 : Int) (x5_1 : Int), v1 = .int .i64 x1_1 ∧ v5 = .int .i64 x5_1 ∧ Aside0 (laws_heldByteS.l0 kq l0 x1_1 x5_1 = some r) ∧ Aside0 (kq ≤ k) ∧ Drawn0 w w')
  case atStart => exact ⟨(a1), (0), (by first | rfl | (simp; done) | (simp [*]; done)), (by first | rfl | (simp; done) | (simp [*]; done)), H', ⟨Nat.le_refl _⟩, by repeat (first | exact Drawn0.refl _ | apply Drawn0.step)⟩
  case round =>
    clear H'
    try clear c1
    try clear p2
    obtain ⟨x1_1, x5_1, rfl, rfl, HA, HK1, ⟨m1, rfl⟩⟩ := hrel
    cases gk with
    | zero => exact absurd HA.out (by simp [laws_heldByteS.l0])
    | succ k1 =>
      have H := HA.out
      clear HA
      simp only [laws_heldByteS.l0] at H
      by_cases c3 : x5_1 < (l0.length : Int)
      · rw [if_pos c3] at H
        have c3b0 : decide (x5_1 < (l0.length : Int)) = true := decide_eq_true c3
        clear c3
        by_cases c4 : 0 ≤ x5_1
        · rw [if_pos c4] at H
          have c4b0 : decide (0 ≤ x5_1) = true := decide_eq_true c4
          clear c4
          by_cases c5 : (rd l0 x5_1) = ((x1_1) % 256)
          · rw [if_pos c5] at H
            have c5b0 : ((rd l0 x5_1) == ((x1_1) % 256)) = true := beq_iff_eq.mpr c5
            have c5b1 : ((rd l0 x5_1) != ((x1_1) % 256)) = false := bne_eq_false_iff_eq.mpr c5
            clear c5
            have H' := Aside0.mk H
            clear H
            have p148 : 0 ≤ (x5_1 : Int) := of_decide_eq_true (by first | (with_reducible assumption) | assumption)
            have q148 : x5_1 < (l0.length : Int) := of_decide_eq_true (by first | (with_reducible assumption) | assumption)
            obtain ⟨ad148, e148, hx148_0⟩ := Kd.at_int HR0.out x5_1 p148 q148
            cases e148
            replace p148 := eq_true p148
            replace q148 := eq_true q148
            go_wp2
            go_roundg k1
            case measure => have := HK1.out; omega
            case rel => exact ⟨(wrap64 (x1_1 + 1)), (wrap64 (x5_1 + 1)), (by first | rfl | (simp; done) | (simp [*]; done)), (by first | rfl | (simp; done) | (simp [*]; done)), H', ⟨by have := HK1.out; omega⟩, by repeat (first | exact Drawn0.refl _ | apply Drawn0.step)⟩
          · rw [if_neg c5] at H
            have c5b0 : ((rd l0 x5_1) == ((x1_1) % 256)) = false := beq_eq_false_iff_ne.mpr c5
            have c5b1 : ((rd l0 x5_1) != ((x1_1) % 256)) = true := bne_iff_ne.mpr c5
            obtain rfl := Option.some.inj H
            have p148 : 0 ≤ (x5_1 : Int) := of_decide_eq_true (by first | (with_reducible assumption) | assumption)
            have q148 : x5_1 < (l0.length : Int) := of_decide_eq_true (by first | (with_reducible assumption) | assumption)
            obtain ⟨ad148, e148, hx148_0⟩ := Kd.at_int HR0.out x5_1 p148 q148
            cases e148
            replace p148 := eq_true p148
            replace q148 := eq_true q148
            go_wp2
            go_ret
            exact ⟨by first | rfl | (simp; done) | (simp [*]; done), by repeat (first | exact Drawn0.refl _ | apply Drawn0.step)⟩
        · rw [if_neg c4] at H
          exact absurd H (by simp)
      · rw [if_neg c3] at H
        have c3b0 : decide (x5_1 < (l0.length : Int)) = false := decide_eq_false c3
        clear c3
        obtain rfl := Option.some.inj H
        go_wp2
        go_ret
        exact ⟨by first | rfl | (simp; done) | (simp [*]; done), by repeat (first | exact Drawn0.refl _ | apply Drawn0.step)⟩

open Go.Proofs.YtkghgjehjchajaaDoorW Go.Proofs.YtkghgjehjchajaaDoorW.PrintHand Go.Proofs.YtkghgjehjchajaaDoorW.PrintHx
/-! ### laws_FnExactEncodeSnap: function 3 -/
def laws_FnExactEncodeSnap.Facts (ax : Int) (as_ : ByteArray) (ap aq : Int) (ar : List Int) : Prop := (∃ (k : Nat) (r1_0 : Int), laws_szSnap.f as_ 1048576 = some r1_0 ∧ (¬ (r1_0 < 0) → (∃ (kc : Nat) (cc : Int) (r3_0 : List Int) (r3_1 : Int) (r5_0 : List Int) (r7_0 : Int) (r7_k0 : List Int) (r10_0 : List Int), spec_CheckName.f kc as_ = some cc ∧ impl_CheckName.f kc as_ = some cc ∧ (cc = 0 → as_.size ≤ 26) ∧ (if snapGood ax cc ap aq ar = true then (snapBytes ax as_ ap aq ar, (0 : Int)) else ([], 7)) = (r3_0, r3_1) ∧ (if snapGood ax cc ap aq ar = true then (snapBytes ax as_ ap aq ar, (0 : Int)) else ([], 7)) = (r5_0, r3_1) ∧ laws_eqByteS.f k r5_0 r3_0 = some true ∧ laws_markByteS.f k r5_0 1 = some (r7_0, r7_k0) ∧ laws_heldByteS.f k r7_k0 1 = some r7_0 ∧ (if snapGood ax cc ap aq ar = true then (snapBytes ax as_ ap aq ar, (0 : Int)) else ([], 7)) = (r10_0, r3_1) ∧ laws_eqByteS.f k r10_0 r3_0 = some true ∧ laws_heldByteS.f k r7_k0 1 = some r7_0 ∧ ¬ (r7_0 < 0) ∧ ¬ (r7_0 < 0))))
def laws_FnExactEncodeSnap.Pure : Prop := ∀ (ax : Int) (as_ : ByteArray) (ap aq : Int) (ar : List Int), as_.size ≤ maxLen → ar.length = 15 → laws_FnExactEncodeSnap.Facts ax as_ ap aq ar
set_option maxHeartbeats 8000000 in
set_option maxRecDepth 100000 in
theorem laws_FnExactEncodeSnap.calls (ax : Int) (as_ : ByteArray) (ap aq : Int) (ar : List Int) (nr : ar.length = 15) (w : World) (hv : Kd.C (Kd.int .u8) w (some ⟨0, 0, none⟩) 8 Go.Proofs.YtkghgjehjchajaaDoorW.PrintSnp.magicS) (hf : laws_FnExactEncodeSnap.Facts ax as_ ap aq ar) :
    Calls Tryd.prog 3 #[.agg (snapC ax as_ ap aq ar).toArray] w fun e w' => e = .returned (.bool true) ∧ Below w.heap.size w w' := by
  have HV := Aside0.mk hv; clear hv
  have NR := Aside0.mk nr; clear nr
  unfold laws_FnExactEncodeSnap.Facts at hf
  have HB0 : Aside0 (Below w.heap.size w w) := ⟨Below.refl _ _⟩
  obtain ⟨s0, Sz0⟩ : ∃ s0, Aside0 (w.heap.size = s0) := ⟨_, ⟨rfl⟩⟩
  have hw0 : w.heap.size ≤ s0 := Nat.le_of_eq Sz0.out
  have hw1 : s0 ≤ w.heap.size := Nat.le_of_eq Sz0.out.symm
  obtain ⟨k, r1_0, eE1_, hf⟩ := hf
  have E1 := Aside0.mk eE1_
  clear eE1_
  by_cases g0_ : r1_0 < 0
  · clear hf
    (try (have g0__0 : decide (r1_0 < 0) = true := decide_eq_true g0_))
    go_enter Tryd.func3, Tryd.ntmps3
    go_wp2_with (first | ((with_reducible refine gate_dst (N := 1) rfl ?_); refine hx_box rfl 1 rfl 26 (.tmp 0) rfl Sz0 (.agg (snapC ax as_ ap aq ar).toArray) (snapC ax as_ ap aq ar).toArray rfl (by simp [Value.cells]) ?_; intro w1 s1 L1 Sz1 b1 g_; have H1_1 := Aside0.mk g_; clear g_; have K0 := kept_below b1; have HB1 := Aside0.mk (below_then HB0.out HB0.out.size b1); clear b1; clear K0 HB0) | ((with_reducible refine gate_dst (N := 12) rfl ?_); refine hx_load rfl 26 (.tmp 1) rfl s0 19 rfl Tryd.underlying26 rfl (by kernel_rfl) H1_1.out (snapC_size NR.out) ?_) | ((with_reducible refine gate_dst (N := 14) rfl ?_); refine goesL_ (some 14) rfl rfl Tryd.func9 (by kernel_rfl) rfl #[.agg (snapC ax as_ ap aq ar).toArray, .int .i64 1048576] rfl (by (try simp only [List.map_toArray, List.map_cons, List.map_nil]); first | done | rfl) ?_; refine (laws_szSnap.calls ax as_ ap aq ar NR.out 1048576 r1_0 _ E1.out).mono ?_; rintro e_ w2 ⟨rfl, b2⟩; refine ⟨_, rfl, ?_⟩; obtain ⟨s2, L2, Sz2⟩ := size_letter Sz1 (kept_below b2); have K1 := kept_below b2; have HB2 := Aside0.mk (below_then HB1.out HB1.out.size b2); have H1_2 := Aside0.mk (blk_kept H1_1.out K1 (fun h_ => h_)); clear b2; clear K1 HB1 H1_1))
    go_ret
    exact ⟨rfl, HB2.out⟩
  replace hf := hf g0_
  (try (have g0__0 : decide (r1_0 < 0) = false := decide_eq_false g0_))
  have G0_ := Aside0.mk g0_
  clear g0_
  obtain ⟨kc, cc, r3_0, r3_1, r5_0, r7_0, r7_k0, r10_0, eEC1_, eEC2_, eEC3_, eE3_, eE5_, eE6_, eE7_, eE8_, eE10_, eE11_, eE12_, h1_0_, h1_1_⟩ := hf
  have EC1 := Aside0.mk eEC1_
  clear eEC1_
  have EC2 := Aside0.mk eEC2_
  clear eEC2_
  have EC3 := Aside0.mk eEC3_
  clear eEC3_
  have E3 := Aside0.mk eE3_
  clear eE3_
  have E5 := Aside0.mk eE5_
  clear eE5_
  have E6 := Aside0.mk eE6_
  clear eE6_
  have E7 := Aside0.mk eE7_
  clear eE7_
  have E8 := Aside0.mk eE8_
  clear eE8_
  have E10 := Aside0.mk eE10_
  clear eE10_
  have E11 := Aside0.mk eE11_
  clear eE11_
  have E12 := Aside0.mk eE12_
  clear eE12_
  (try (have h1_0__0 : decide (r7_0 < 0) = false := decide_eq_false h1_0_))
  (try (have h1_1__0 : decide (r7_0 < 0) = false := decide_eq_false h1_1_))
  go_enter Tryd.func3, Tryd.ntmps3
  go_wp2_with (first | ((with_reducible refine gate_dst (N := 1) rfl ?_); refine hx_box rfl 1 rfl 26 (.tmp 0) rfl Sz0 (.agg (snapC ax as_ ap aq ar).toArray) (snapC ax as_ ap aq ar).toArray rfl (by simp [Value.cells]) ?_; intro w1 s1 L1 Sz1 b1 g_; have H1_1 := Aside0.mk g_; clear g_; have K0 := kept_below b1; have HB1 := Aside0.mk (below_then HB0.out HB0.out.size b1); clear b1; clear K0 HB0) | ((with_reducible refine gate_dst (N := 12) rfl ?_); refine hx_load rfl 26 (.tmp 1) rfl s0 19 rfl Tryd.underlying26 rfl (by kernel_rfl) H1_1.out (snapC_size NR.out) ?_) | ((with_reducible refine gate_dst (N := 14) rfl ?_); refine goesL_ (some 14) rfl rfl Tryd.func9 (by kernel_rfl) rfl #[.agg (snapC ax as_ ap aq ar).toArray, .int .i64 1048576] rfl (by (try simp only [List.map_toArray, List.map_cons, List.map_nil]); first | done | rfl) ?_; refine (laws_szSnap.calls ax as_ ap aq ar NR.out 1048576 r1_0 _ E1.out).mono ?_; rintro e_ w2 ⟨rfl, b2⟩; refine ⟨_, rfl, ?_⟩; obtain ⟨s2, L2, Sz2⟩ := size_letter Sz1 (kept_below b2); have K1 := kept_below b2; have HB2 := Aside0.mk (below_then HB1.out HB1.out.size b2); have H1_2 := Aside0.mk (blk_kept H1_1.out K1 (fun h_ => h_)); clear b2; clear K1 HB1 H1_1) | ((with_reducible refine gate_dst (N := 18) rfl ?_); refine hx_load rfl 26 (.tmp 1) rfl s0 19 rfl Tryd.underlying26 rfl (by kernel_rfl) H1_2.out (snapC_size NR.out) ?_) | ((with_reducible refine gate_dst (N := 19) rfl ?_); refine goesL_ (some 19) rfl rfl Tryd.func11 (by kernel_rfl) rfl #[.agg (snapC ax as_ ap aq ar).toArray] rfl (by (try simp only [List.map_toArray, List.map_cons, List.map_nil]); first | done | rfl) ?_; refine (laws_toSnap.calls ax as_ ap aq ar NR.out _).mono ?_; rintro e_ w3 ⟨rfl, b3⟩; refine ⟨_, rfl, ?_⟩; obtain ⟨s3, L3, Sz3⟩ := size_letter Sz2 (kept_below b3); have K2 := kept_below b3; have HB3 := Aside0.mk (below_then HB2.out HB2.out.size b3); have H1_3 := Aside0.mk (blk_kept H1_2.out K2 (fun h_ => h_)); clear b3; clear K2 HB2 H1_2) | ((with_reducible refine gate_dst (N := 20) rfl ?_); refine goesL_ (some 20) rfl rfl Tryd.func10 (by kernel_rfl) rfl #[.agg (snapC ax as_ ap aq ar).toArray] rfl (by (try simp only [List.map_toArray, List.map_cons, List.map_nil]); first | done | rfl) ?_; refine (spec_EncodeSnap.calls ax as_ ap aq ar NR.out kc cc EC1.out EC3.out r3_0 r3_1 _ E3.out).mono ?_; rintro e_ w4 ⟨v0_, rfl, R3_0, b4⟩; obtain ⟨A3_0, c3_0, rfl⟩ := Kd.R_slice R3_0; refine ⟨_, rfl, ?_⟩; obtain ⟨s4, L4, Sz4⟩ := size_letter Sz3 (kept_below b4); have O3_0_4 := own_btw R3_0 Sz3.out Sz4 HB3.out.size; clear R3_0; have K3 := kept_below b4; have HB4 := Aside0.mk (below_then HB3.out HB3.out.size b4); have H1_4 := Aside0.mk (blk_kept H1_3.out K3 (fun h_ => h_)); clear b4; clear K3 HB3 H1_3) | ((with_reducible refine gate_dst (N := 24) rfl ?_); refine hx_load rfl 26 (.tmp 1) rfl s0 19 rfl Tryd.underlying26 rfl (by kernel_rfl) H1_4.out (snapC_size NR.out) ?_) | ((with_reducible refine gate_dst (N := 25) rfl ?_); refine goesL_ (some 25) rfl rfl Tryd.func11 (by kernel_rfl) rfl #[.agg (snapC ax as_ ap aq ar).toArray] rfl (by (try simp only [List.map_toArray, List.map_cons, List.map_nil]); first | done | rfl) ?_; refine (laws_toSnap.calls ax as_ ap aq ar NR.out _).mono ?_; rintro e_ w5 ⟨rfl, b5⟩; refine ⟨_, rfl, ?_⟩; obtain ⟨s5, L5, Sz5⟩ := size_letter Sz4 (kept_below b5); have K4 := kept_below b5; have HB5 := Aside0.mk (below_then HB4.out HB4.out.size b5); have H1_5 := Aside0.mk (blk_kept H1_4.out K4 (fun h_ => h_)); have O3_0_5 := Aside0.mk (Kd.R_kept O3_0_4.out K4 (fun _ _ h_ => h_)); clear b5; clear K4 HB4 H1_4 O3_0_4) | ((with_reducible refine gate_dst (N := 26) rfl ?_); refine goesL_ (some 26) rfl rfl Tryd.func12 (by kernel_rfl) rfl #[.agg (snapC ax as_ ap aq ar).toArray] rfl (by (try simp only [List.map_toArray, List.map_cons, List.map_nil]); first | done | rfl) ?_; refine (impl_EncodeSnap.calls ax as_ ap aq ar NR.out kc cc EC2.out EC3.out r5_0 r3_1 _ (Kd.C_below HV.out HB5.out) E5.out).mono ?_; rintro e_ w6 ⟨v0_, rfl, R5_0, b6⟩; obtain ⟨A5_0, c5_0, rfl⟩ := Kd.R_slice R5_0; refine ⟨_, rfl, ?_⟩; obtain ⟨s6, L6, Sz6⟩ := size_letter Sz5 (kept_below b6); have O5_0_6 := own_btw R5_0 Sz5.out Sz6 HB5.out.size; clear R5_0; have K5 := kept_below b6; have HB6 := Aside0.mk (below_then HB5.out HB5.out.size b6); have H1_6 := Aside0.mk (blk_kept H1_5.out K5 (fun h_ => h_)); have O3_0_6 := Aside0.mk (Kd.R_kept O3_0_5.out K5 (fun _ _ h_ => h_)); clear b6; clear K5 HB5 H1_5 O3_0_5) | ((with_reducible refine gate_dst (N := 31) rfl ?_); refine goesL_ (some 31) rfl rfl Tryd.func13 (by kernel_rfl) rfl #[.slice A5_0 r5_0.length c5_0, .slice A3_0 r3_0.length c3_0] rfl (by (try simp only [List.map_toArray, List.map_cons, List.map_nil]); first | done | rfl) ?_; refine (laws_eqByteS.calls _ _ _ _ _ _ _ _ _ (Kd.R_reads' O5_0_6.out).2.2 (Kd.R_reads' O5_0_6.out).2.1 (Kd.R_reads' O3_0_6.out).2.2 (Kd.R_reads' O3_0_6.out).2.1 E6.out).mono ?_; rintro e_ w7 ⟨rfl, b_⟩; have b7 := kept_drawn b_; refine ⟨_, rfl, ?_⟩; obtain ⟨s7, L7, Sz7⟩ := size_letter Sz6 (kept_below b7); have K6 := kept_below b7; have HB7 := Aside0.mk (below_then HB6.out HB6.out.size b7); have H1_7 := Aside0.mk (blk_kept H1_6.out K6 (fun h_ => h_)); have O3_0_7 := Aside0.mk (Kd.R_kept O3_0_6.out K6 (fun _ _ h_ => h_)); have O5_0_7 := Aside0.mk (Kd.R_kept O5_0_6.out K6 (fun _ _ h_ => h_)); clear b7; clear K6 HB6 H1_6 O3_0_6 O5_0_6) | ((with_reducible refine gate_dst (N := 40) rfl ?_); refine goesL_ (some 40) rfl rfl Tryd.func14 (by kernel_rfl) rfl #[.slice A5_0 r5_0.length c5_0, .int .i64 1] rfl (by (try simp only [List.map_toArray, List.map_cons, List.map_nil]); first | done | rfl) ?_; refine (laws_markByteS.calls _ _ _ _ _ _ _ _ _ HB7.out O5_0_7.out E7.out).mono ?_; rintro e_ w8 ⟨rfl, R7_0, hb_, kp_⟩; refine ⟨_, rfl, ?_⟩; have K7 := Kept.mono kp_ (fun k_ hk_ => hk_); have HB8 := Aside0.mk hb_; obtain ⟨s8, L8, Sz8⟩ := size_letter Sz7 K7; have O5_0_8 := own_same R7_0 O5_0_7.out rfl; clear R7_0 kp_ hb_; have H1_8 := Aside0.mk (blk_kept H1_7.out K7 (fun h_ => by have h1_ := h_.1; have h2_ := h_.2; omega)); have O3_0_8 := Aside0.mk (Kd.R_kept O3_0_7.out K7 (fun k_ hk_ h_ => by have h1_ := hk_.1; have h2_ := hk_.2; have h3_ := h_.1; have h4_ := h_.2; omega)); clear K7 HB7 H1_7 O3_0_7; clear O5_0_7) | ((with_reducible refine gate_dst (N := 43) rfl ?_); refine goesL_ (some 43) rfl rfl Tryd.func15 (by kernel_rfl) rfl #[.slice A5_0 r5_0.length c5_0, .int .i64 1] rfl (by (try simp only [List.map_toArray, List.map_cons, List.map_nil]); first | done | rfl) ?_; refine calls_of_args (args' := #[.slice A5_0 r7_k0.length c5_0, .int .i64 1]) (by rw [(Kd.R_reads' O5_0_8.out).1]) ?_; refine (laws_heldByteS.calls _ _ _ _ _ _ _ (Kd.R_reads' O5_0_8.out).2.2 (by have h_ := Kd.R_reads' O5_0_8.out; rw [← h_.1]; exact h_.2.1) E8.out).mono ?_; rintro e_ w9 ⟨rfl, b_⟩; have b9 := kept_drawn b_; refine ⟨_, rfl, ?_⟩; obtain ⟨s9, L9, Sz9⟩ := size_letter Sz8 (kept_below b9); have K8 := kept_below b9; have HB9 := Aside0.mk (below_then HB8.out HB8.out.size b9); have H1_9 := Aside0.mk (blk_kept H1_8.out K8 (fun h_ => h_)); have O3_0_9 := Aside0.mk (Kd.R_kept O3_0_8.out K8 (fun _ _ h_ => h_)); have O5_0_9 := Aside0.mk (Kd.R_kept O5_0_8.out K8 (fun _ _ h_ => h_)); clear b9; clear K8 HB8 H1_8 O3_0_8 O5_0_8) | ((with_reducible refine gate_dst (N := 50) rfl ?_); refine hx_load rfl 26 (.tmp 1) rfl s0 19 rfl Tryd.underlying26 rfl (by kernel_rfl) H1_9.out (snapC_size NR.out) ?_) | ((with_reducible refine gate_dst (N := 51) rfl ?_); refine goesL_ (some 51) rfl rfl Tryd.func11 (by kernel_rfl) rfl #[.agg (snapC ax as_ ap aq ar).toArray] rfl (by (try simp only [List.map_toArray, List.map_cons, List.map_nil]); first | done | rfl) ?_; refine (laws_toSnap.calls ax as_ ap aq ar NR.out _).mono ?_; rintro e_ w10 ⟨rfl, b10⟩; refine ⟨_, rfl, ?_⟩; obtain ⟨s10, L10, Sz10⟩ := size_letter Sz9 (kept_below b10); have K9 := kept_below b10; have HB10 := Aside0.mk (below_then HB9.out HB9.out.size b10); have H1_10 := Aside0.mk (blk_kept H1_9.out K9 (fun h_ => h_)); have O3_0_10 := Aside0.mk (Kd.R_kept O3_0_9.out K9 (fun _ _ h_ => h_)); have O5_0_10 := Aside0.mk (Kd.R_kept O5_0_9.out K9 (fun _ _ h_ => h_)); clear b10; clear K9 HB9 H1_9 O3_0_9 O5_0_9) | ((with_reducible refine gate_dst (N := 52) rfl ?_); refine goesL_ (some 52) rfl rfl Tryd.func12 (by kernel_rfl) rfl #[.agg (snapC ax as_ ap aq ar).toArray] rfl (by (try simp only [List.map_toArray, List.map_cons, List.map_nil]); first | done | rfl) ?_; refine (impl_EncodeSnap.calls ax as_ ap aq ar NR.out kc cc EC2.out EC3.out r10_0 r3_1 _ (Kd.C_below HV.out HB10.out) E10.out).mono ?_; rintro e_ w11 ⟨v0_, rfl, R10_0, b11⟩; obtain ⟨A10_0, c10_0, rfl⟩ := Kd.R_slice R10_0; refine ⟨_, rfl, ?_⟩; obtain ⟨s11, L11, Sz11⟩ := size_letter Sz10 (kept_below b11); have O10_0_11 := own_btw R10_0 Sz10.out Sz11 HB10.out.size; clear R10_0; have K10 := kept_below b11; have HB11 := Aside0.mk (below_then HB10.out HB10.out.size b11); have H1_11 := Aside0.mk (blk_kept H1_10.out K10 (fun h_ => h_)); have O3_0_11 := Aside0.mk (Kd.R_kept O3_0_10.out K10 (fun _ _ h_ => h_)); have O5_0_11 := Aside0.mk (Kd.R_kept O5_0_10.out K10 (fun _ _ h_ => h_)); clear b11; clear K10 HB10 H1_10 O3_0_10 O5_0_10) | ((with_reducible refine gate_dst (N := 57) rfl ?_); refine goesL_ (some 57) rfl rfl Tryd.func13 (by kernel_rfl) rfl #[.slice A10_0 r10_0.length c10_0, .slice A3_0 r3_0.length c3_0] rfl (by (try simp only [List.map_toArray, List.map_cons, List.map_nil]); first | done | rfl) ?_; refine (laws_eqByteS.calls _ _ _ _ _ _ _ _ _ (Kd.R_reads' O10_0_11.out).2.2 (Kd.R_reads' O10_0_11.out).2.1 (Kd.R_reads' O3_0_11.out).2.2 (Kd.R_reads' O3_0_11.out).2.1 E11.out).mono ?_; rintro e_ w12 ⟨rfl, b_⟩; have b12 := kept_drawn b_; refine ⟨_, rfl, ?_⟩; obtain ⟨s12, L12, Sz12⟩ := size_letter Sz11 (kept_below b12); have K11 := kept_below b12; have HB12 := Aside0.mk (below_then HB11.out HB11.out.size b12); have H1_12 := Aside0.mk (blk_kept H1_11.out K11 (fun h_ => h_)); have O3_0_12 := Aside0.mk (Kd.R_kept O3_0_11.out K11 (fun _ _ h_ => h_)); have O5_0_12 := Aside0.mk (Kd.R_kept O5_0_11.out K11 (fun _ _ h_ => h_)); have O10_0_12 := Aside0.mk (Kd.R_kept O10_0_11.out K11 (fun _ _ h_ => h_)); clear b12; clear K11 HB11 H1_11 O3_0_11 O5_0_11 O10_0_11) | ((with_reducible refine gate_dst (N := 66) rfl ?_); refine goesL_ (some 66) rfl rfl Tryd.func15 (by kernel_rfl) rfl #[.slice A5_0 r5_0.length c5_0, .int .i64 1] rfl (by (try simp only [List.map_toArray, List.map_cons, List.map_nil]); first | done | rfl) ?_; refine calls_of_args (args' := #[.slice A5_0 r7_k0.length c5_0, .int .i64 1]) (by rw [(Kd.R_reads' O5_0_12.out).1]) ?_; refine (laws_heldByteS.calls _ _ _ _ _ _ _ (Kd.R_reads' O5_0_12.out).2.2 (by have h_ := Kd.R_reads' O5_0_12.out; rw [← h_.1]; exact h_.2.1) E12.out).mono ?_; rintro e_ w13 ⟨rfl, b_⟩; have b13 := kept_drawn b_; refine ⟨_, rfl, ?_⟩; obtain ⟨s13, L13, Sz13⟩ := size_letter Sz12 (kept_below b13); have K12 := kept_below b13; have HB13 := Aside0.mk (below_then HB12.out HB12.out.size b13); have H1_13 := Aside0.mk (blk_kept H1_12.out K12 (fun h_ => h_)); have O3_0_13 := Aside0.mk (Kd.R_kept O3_0_12.out K12 (fun _ _ h_ => h_)); have O5_0_13 := Aside0.mk (Kd.R_kept O5_0_12.out K12 (fun _ _ h_ => h_)); have O10_0_13 := Aside0.mk (Kd.R_kept O10_0_12.out K12 (fun _ _ h_ => h_)); clear b13; clear K12 HB12 H1_12 O3_0_12 O5_0_12 O10_0_12))
  go_ret
  exact ⟨rfl, HB13.out⟩

end Go.Proofs.YtkghgjehjchajaaDoor.PFnExactEncodeSnap
