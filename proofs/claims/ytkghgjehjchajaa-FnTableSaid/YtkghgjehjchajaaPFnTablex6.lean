-- Written by a program of this session (patch_print.py over the kit print)
import Derived.Test.YtkghgjehjchajaaPFnTablex0
import Derived.Test.YtkghgjehjchajaaPFnTablex2
import Derived.Test.YtkghgjehjchajaaPFnTablex5
namespace Go.Proofs.Ytkghgjehjchajaa.PFnTable
open Go.RowKit Go.Proofs.YtkghgjehjchajaaW.PrintWords Go.Proofs.YtkghgjehjchajaaW.PrintLast Go.Proofs.YtkghgjehjchajaaW.PrintMore
attribute [local go_sem] max2_int min2_int max_two min_two max_three min_three max_four min_four   -- for this text's walks alone
set_option linter.unusedVariables false
set_option linter.unusedSimpArgs false

open Go.Proofs.YtkghgjehjchajaaW Go.Proofs.YtkghgjehjchajaaW.PrintHand Go.Proofs.YtkghgjehjchajaaW.PrintHx
/-! ### impl_Root_right: function 44 -/
def impl_Root_right.f (a0 : List Int) : Option Bool := some (rootGood a0)
theorem impl_Root_right.within (a b c : Int) : impl_within.f a b c = some (decide (b ≤ a ∧ a ≤ c)) := by
  unfold impl_within.f
  by_cases h : b ≤ a <;> simp [h]
theorem impl_Root_right.ptr (p : Int) : impl_isPointer.f p 2048 = some (ptrOk p) := by
  unfold impl_isPointer.f ptrOk
  by_cases h : p = 0
  · simp [h]
  · rw [if_neg h, impl_Root_right.within, Option.bind_some, show wrap64 (2048 - 1) = 2047 by unfold wrap64; omega]
    congr 1
    rw [decide_eq_false h, Bool.false_or, ← Bool.decide_and]
    apply decide_eq_decide.2
    omega
theorem impl_Root_right.count (s : Int) (h0 : 0 ≤ s) (h1 : s ≤ 262144) : impl_count.f s = some ((s + 511) / 512) := by
  unfold impl_count.f
  have e1 : wrap64 (s + 512) = s + 512 := by unfold wrap64; omega
  have e2 : wrap64 (s + 512 - 1) = s + 511 := by unfold wrap64; omega
  rw [e1, e2, Int.tdiv_eq_ediv_of_nonneg (by omega)]
  congr 1
  unfold wrap64
  omega
set_option maxHeartbeats 8000000 in
set_option maxRecDepth 100000 in
theorem impl_Root_right.calls (a0 : List Int) (n0 : a0.length = 15) (r : Bool) (w : World) (h : impl_Root_right.f a0 = some r) :
    Calls Try.prog 44 #[.agg (nums .i64 a0).toArray] w fun e w' => e = .returned (.bool r) ∧ Below w.heap.size w w' := by
  have H := Aside0.mk (Option.some.inj h)
  have N_ := Aside0.mk n0
  clear n0 h
  obtain ⟨s, hs⟩ : ∃ s, s = a0.getD 0 0 := ⟨_, rfl⟩
  have HS := Aside0.mk hs
  obtain ⟨x13, hx13⟩ : ∃ x, x = a0.getD 13 0 := ⟨_, rfl⟩
  have HX13 := Aside0.mk hx13
  obtain ⟨x14, hx14⟩ : ∃ x, x = a0.getD 14 0 := ⟨_, rfl⟩
  have HX14 := Aside0.mk hx14
  clear hs hx13 hx14
  obtain ⟨xs, hxs⟩ : ∃ xs, xs = seg a0 1 14 := ⟨_, rfl⟩
  have HP := Aside0.mk (show impl_Root_pointers.f a0 = some xs by rw [hxs]; exact if_pos N_.out)
  have HXL := Aside0.mk (show xs.length = 14 by rw [hxs]; exact part_len (n := 15) N_.out (by decide))
  have HXS := Aside0.mk hxs
  clear hxs
  have HB0 : Aside0 (Below w.heap.size w w) := ⟨Below.refl _ _⟩
  obtain ⟨s0, Sz0⟩ : ∃ s0, Aside0 (w.heap.size = s0) := ⟨_, ⟨rfl⟩⟩
  have hw0 : w.heap.size ≤ s0 := Nat.le_of_eq Sz0.out
  have hw1 : s0 ≤ w.heap.size := Nat.le_of_eq Sz0.out.symm
  by_cases c1 : 0 ≤ s ∧ s ≤ 262144
  case neg =>
    have HW := Aside0.mk ((impl_Root_right.within s 0 262144).trans (by rw [decide_eq_false c1]))
    have C1 := Aside0.mk c1
    clear c1
    go_enter Try.func44, Try.ntmps44
    go_wp2_with (first | ((with_reducible refine gate_dst (N := 1) rfl ?_); refine hx_box rfl 1 rfl 28 (.tmp 0) rfl Sz0 (.agg (nums .i64 a0).toArray) (nums .i64 a0).toArray rfl rfl ?_; intro w1 s1 L1 Sz1 b1 g_; have H0 := Aside0.mk g_; have HB1 := Aside0.mk (below_then HB0.out HB0.out.size b1); clear g_ HB0 b1; have c0_ := row_cell H0.out 0 (lt_len (n := 15) N_.out (by decide)); rw [← HS.out] at c0_) | (go_at_call 71; refine (impl_within.calls s 0 262144 false _ HW.out).mono ?_; rintro e_ w_ ⟨rfl, ⟨nd, rfl⟩⟩))
    go_ret
    refine ⟨?_, pw_below_drewN HB1.out _⟩
    have e_ : rootGood a0 = false := by
      by_cases c2 : a0.getD 0 0 < 0
      · exact rootGood_low c2
      · exact rootGood_high (by have := C1.out; rw [HS.out] at this; omega)
    rw [← H.out, e_]; rfl
  have HW := Aside0.mk ((impl_Root_right.within s 0 262144).trans (by rw [decide_eq_true c1]))
  have W1 : 0 ≤ s := c1.1
  have W2 : s ≤ 262144 := c1.2
  clear c1
  obtain ⟨bb, hbb⟩ : ∃ b, b = (s + 511) / 512 := ⟨_, rfl⟩
  have HC := Aside0.mk (show impl_count.f s = some bb by rw [hbb]; exact impl_Root_right.count s W1 W2)
  have HBB := Aside0.mk hbb
  have hbb1 : 0 ≤ bb := by omega
  have hbb2 : bb ≤ 1000 := by omega
  clear hbb
  go_enter Try.func44, Try.ntmps44
  go_wp2_with (first | ((with_reducible refine gate_dst (N := 1) rfl ?_); refine hx_box rfl 1 rfl 28 (.tmp 0) rfl Sz0 (.agg (nums .i64 a0).toArray) (nums .i64 a0).toArray rfl rfl ?_; intro w1 s1 L1 Sz1 b1 g_; have H0 := Aside0.mk g_; have HB1 := Aside0.mk (below_then HB0.out HB0.out.size b1); clear g_ HB0 b1; have c0_ := row_cell H0.out 0 (lt_len (n := 15) N_.out (by decide)); rw [← HS.out] at c0_) | (go_at_call 71; refine (impl_within.calls s 0 262144 true _ HW.out).mono ?_; rintro e_ w_ ⟨rfl, ⟨nd, rfl⟩⟩) | ((with_reducible refine gate_dst (N := 12) rfl ?_); refine hx_load rfl 28 (.tmp 1) rfl s0 15 rfl Try.underlying28 rfl (by kernel_rfl) (blk_drewN H0.out _) (nums_size _ _ _ N_.out) ?_) | ((with_reducible refine gate_dst (N := 13) rfl ?_); refine goesL_ (some 13) rfl rfl Try.func72 (by kernel_rfl) rfl #[.agg (nums .i64 a0).toArray] rfl (by (try simp only [List.map_toArray, List.map_cons, List.map_nil]); first | done | rfl) ?_; refine (impl_Root_pointers.calls a0 N_.out xs _ HP.out).mono ?_; rintro e_ w3 ⟨v0_, rfl, R_, b_⟩; obtain ⟨A21, c21, rfl⟩ := Kd.R_slice R_; refine ⟨_, rfl, ?_⟩; have O := Aside0.mk R_; have HB := Aside0.mk (below_then (pw_below_drewN HB1.out _) (pw_below_drewN HB1.out _).size b_); have H3 := Aside0.mk (blk_below (blk_drewN H0.out _) b_); clear R_ b_ HB1 H0 c0_))
  (try simp only [Act.put, List.setIfInBounds_toArray, List.set_cons_succ, List.set_cons_zero])
  go_loopw [15] (fun v15 wr => ∃ j : Nat, v15 = .int .i64 (j : Int) ∧ Aside0 (j ≤ 14) ∧ Aside0 (∀ i, i < j → ptrOk ((seg a0 1 14).getD i 0) = true) ∧ Drawn0 w3 wr) (fun v15 _ => 14 - (intOf v15).toNat)
  case atStart => exact ⟨0, rfl, ⟨by omega⟩, ⟨fun i hi => absurd hi (Nat.not_lt_zero i)⟩, Drawn0.refl _⟩
  case round =>
    obtain ⟨j, rfl, hj, hall, ⟨m2, rfl⟩⟩ := hrel
    by_cases c9 : j < 14
    · have c9b0 : decide ((j : Int) < (xs.length : Int)) = true := decide_eq_true (by rw [HXL.out]; omega)
      have c9b1 : decide (j < xs.length) = true := decide_eq_true (by rw [HXL.out]; omega)
      have p112 : 0 ≤ (j : Int) := by omega
      have q112 : (j : Int) < (xs.length : Int) := by rw [HXL.out]; omega
      obtain ⟨ad112, e112, hx112⟩ := Kd.at_int (Kd.C_drewN (Kd.R_reads' O.out).2.2 m2) (j : Int) p112 q112
      cases e112
      rw [Int.toNat_natCast] at hx112
      replace p112 := eq_true p112
      replace q112 := eq_true q112
      have q113 : (j < xs.length) = True := eq_true (by rw [HXL.out]; omega)
      obtain ⟨p, hp⟩ : ∃ p, p = rd xs (j : Int) := ⟨_, rfl⟩
      rw [← hp] at hx112
      have HPV := Aside0.mk (show p = (seg a0 1 14).getD j 0 by rw [hp, HXS.out, rd, Int.toNat_natCast])
      have C9 := Aside0.mk c9
      clear hp c9
      by_cases cq : ptrOk p = true
      · have HQ := Aside0.mk ((impl_Root_right.ptr p).trans (by rw [cq]))
        have CQ := Aside0.mk (show ptrOk ((seg a0 1 14).getD j 0) = true by rw [← HPV.out]; exact cq)
        clear cq
        go_wp2_with (first | (go_at_call 73; refine (impl_isPointer.calls p 2048 true _ HQ.out).mono ?_; rintro e_ w_ ⟨rfl, ⟨nd, rfl⟩⟩))
        go_roundw
        case rel =>
          refine ⟨j + 1, by rw [show wrap64 ((j : Int) + 1) = ((j + 1 : Nat) : Int) by (have := C9.out; unfold wrap64; omega)], ⟨by have := C9.out; omega⟩, ⟨fun i hi => ?_⟩, by repeat (first | exact Drawn0.refl _ | apply Drawn0.step)⟩
          by_cases hij : i = j
          · subst hij; exact CQ.out
          · exact hall.out i (by omega)
        case measure =>
          rw [show wrap64 ((j : Int) + 1) = ((j + 1 : Nat) : Int) by (have := C9.out; unfold wrap64; omega)]
          simp only [intOf, Int.toNat_natCast]
          have := C9.out
          omega
      · have cq2 : ptrOk p = false := by simpa using cq
        have HQ := Aside0.mk ((impl_Root_right.ptr p).trans (by rw [cq2]))
        have CQ := Aside0.mk cq2
        clear cq cq2
        go_wp2_with (first | (go_at_call 73; refine (impl_isPointer.calls p 2048 false _ HQ.out).mono ?_; rintro e_ w_ ⟨rfl, ⟨nd, rfl⟩⟩))
        go_ret
        refine ⟨?_, by first | exact pw_below_drewN HB.out _ | exact pw_below_drewN (pw_below_drewN HB.out _) _⟩
        have e_ : rootGood a0 = false := rootGood_bad j (by have := C9.out; omega) (by rw [ptrFits, ← HPV.out, CQ.out]; rfl)
        rw [← H.out, e_]; rfl
    · obtain rfl : j = 14 := by have := hj.out; omega
      have c9b0 : decide ((14 : Int) < (xs.length : Int)) = false := decide_eq_false (by rw [HXL.out]; decide)
      have c9b1 : decide (14 < xs.length) = false := decide_eq_false (by rw [HXL.out]; decide)
      have hp := hall
      have c0_ := row_cell (blk_drewN H3.out m2) 0 (lt_len (n := 15) N_.out (by decide))
      rw [← HS.out] at c0_
      clear hall hj
      go_wp2_with (first | (go_at_call 74; refine (impl_count.calls s bb _ HC.out).mono ?_; rintro e_ w_ ⟨rfl, ⟨nd, rfl⟩⟩) | ((with_reducible refine gate_dst (N := 27) rfl ?_); refine hx_loadp rfl 22 (.tmp 26) rfl s0 1 12 rfl Try.underlying22 rfl (by kernel_rfl) (blk_drewN H3.out _) (le_len (n := 15) N_.out (by decide)) ?_))
      (try simp only [Act.put, List.setIfInBounds_toArray, List.set_cons_succ, List.set_cons_zero])
      go_loopw [28] (fun v28 wr => ∃ j : Nat, v28 = .int .i64 (j : Int) ∧ Aside0 (j ≤ 12) ∧ Aside0 (∀ i, i < j → (seg a0 1 14).getD i 0 = 0 ∨ (i : Int) < (a0.getD 0 0 + 511) / 512) ∧ Drawn0 w3 wr) (fun v28 _ => 12 - (intOf v28).toNat)
      case atStart => exact ⟨0, rfl, ⟨by omega⟩, ⟨fun i hi => absurd hi (Nat.not_lt_zero i)⟩, by repeat (first | exact Drawn0.refl _ | apply Drawn0.step)⟩
      case round =>
        clear c0_ c9b0 c9b1 c9
        obtain ⟨j, rfl, hj, hall, ⟨m3, rfl⟩⟩ := hrel
        by_cases c9 : j < 12
        · have c9b0 : decide ((j : Int) < 12) = true := decide_eq_true (by omega)
          have c9b1 : decide (j < 12) = true := decide_eq_true c9
          obtain ⟨p, hp2⟩ : ∃ p, p = (seg a0 1 12).getD j 0 := ⟨_, rfl⟩
          have HPV := Aside0.mk hp2
          have HPV2 := Aside0.mk (show p = (seg a0 1 14).getD j 0 by rw [hp2, seg_getD _ _ _ _ c9, seg_getD _ _ _ _ (by omega)])
          have C9 := Aside0.mk c9
          clear hp2 c9
          by_cases cb : bb ≤ (j : Int)
          case neg =>
            have cb_ : decide (bb ≤ (j : Int)) = false := decide_eq_false cb
            have CB := Aside0.mk cb
            clear cb
            go_wp2_with (first | ((with_reducible refine gate_dst (N := 31) rfl ?_); refine hx_index rfl 22 3 12 (.tmp 27) (.tmp 28) rfl (seg a0 1 12) j _ rfl rfl Try.underlying22 Try.underlying3 rfl (by kernel_rfl) (part_len (n := 15) N_.out (by decide)) C9.out ?_; rw [← HPV.out]))
            go_roundw
            case rel =>
              refine ⟨j + 1, by rw [show wrap64 ((j : Int) + 1) = ((j + 1 : Nat) : Int) by (have := C9.out; unfold wrap64; omega)], ⟨by have := C9.out; omega⟩, ⟨fun i hi => ?_⟩, by repeat (first | exact Drawn0.refl _ | apply Drawn0.step)⟩
              by_cases hij : i = j
              · subst hij; exact by rw [← HPV2.out]; exact .inr (by rw [← HS.out]; have := HBB.out; have := CB.out; omega)
              · exact hall.out i (by omega)
            case measure =>
              rw [show wrap64 ((j : Int) + 1) = ((j + 1 : Nat) : Int) by (have := C9.out; unfold wrap64; omega)]
              simp only [intOf, Int.toNat_natCast]
              have := C9.out
              omega
          case pos =>
            have cb_ : decide (bb ≤ (j : Int)) = true := decide_eq_true cb
            have CB := Aside0.mk cb
            clear cb
            by_cases cz : p = 0
            · have cz_ : (p != 0) = false := bne_eq_false_iff_eq.mpr cz
              have CZ := Aside0.mk cz
              clear cz
              go_wp2_with (first | ((with_reducible refine gate_dst (N := 31) rfl ?_); refine hx_index rfl 22 3 12 (.tmp 27) (.tmp 28) rfl (seg a0 1 12) j _ rfl rfl Try.underlying22 Try.underlying3 rfl (by kernel_rfl) (part_len (n := 15) N_.out (by decide)) C9.out ?_; rw [← HPV.out]))
              go_roundw
              case rel =>
                refine ⟨j + 1, by rw [show wrap64 ((j : Int) + 1) = ((j + 1 : Nat) : Int) by (have := C9.out; unfold wrap64; omega)], ⟨by have := C9.out; omega⟩, ⟨fun i hi => ?_⟩, by repeat (first | exact Drawn0.refl _ | apply Drawn0.step)⟩
                by_cases hij : i = j
                · subst hij; exact by rw [← HPV2.out]; exact .inl CZ.out
                · exact hall.out i (by omega)
              case measure =>
                rw [show wrap64 ((j : Int) + 1) = ((j + 1 : Nat) : Int) by (have := C9.out; unfold wrap64; omega)]
                simp only [intOf, Int.toNat_natCast]
                have := C9.out
                omega
            · have cz_ : (p != 0) = true := bne_iff_ne.mpr cz
              have CZ := Aside0.mk cz
              clear cz
              go_wp2_with (first | ((with_reducible refine gate_dst (N := 31) rfl ?_); refine hx_index rfl 22 3 12 (.tmp 27) (.tmp 28) rfl (seg a0 1 12) j _ rfl rfl Try.underlying22 Try.underlying3 rfl (by kernel_rfl) (part_len (n := 15) N_.out (by decide)) C9.out ?_; rw [← HPV.out]))
              go_ret
              refine ⟨?_, by first | exact pw_below_drewN HB.out _ | exact pw_below_drewN (pw_below_drewN HB.out _) _⟩
              have e_ : rootGood a0 = false := rootGood_dir j C9.out (by rw [← HPV2.out]; exact CZ.out) (by rw [← HS.out]; have := HBB.out; have := CB.out; omega)
              rw [← H.out, e_]; rfl
        · obtain rfl : j = 12 := by have := hj.out; omega
          have c13_ := row_cell (blk_drewN H3.out m3) 13 (lt_len (n := 15) N_.out (by decide))
          have c14_ := row_cell (blk_drewN H3.out m3) 14 (lt_len (n := 15) N_.out (by decide))
          rw [← HX13.out] at c13_
          rw [← HX14.out] at c14_
          by_cases d1 : 12 < bb
          · have d1_ : decide (12 < bb) = true := decide_eq_true d1
            have D1 := Aside0.mk d1
            clear d1
            by_cases d3 : 140 < bb
            · have d3_ : decide (140 < bb) = true := decide_eq_true d3
              have D3 := Aside0.mk d3
              clear d3
              go_wp2
              go_ret
              refine ⟨?_, by first | exact pw_below_drewN HB.out _ | exact pw_below_drewN (pw_below_drewN HB.out _) _⟩
              have e_ : rootGood a0 = true := rootGood_end (by rw [← HS.out]; exact W1) (by rw [← HS.out]; exact W2) hp.out hall.out (.inr (by rw [← HS.out]; have := HBB.out; have := D1.out; omega)) (.inr (by rw [← HS.out]; have := HBB.out; have := D3.out; omega))
              rw [← H.out, e_]; rfl
            · have d3_ : decide (140 < bb) = false := decide_eq_false d3
              have D3 := Aside0.mk d3
              clear d3
              by_cases d4 : x14 = 0
              · have d4_ : (x14 == 0) = true := beq_iff_eq.mpr d4
                have D4 := Aside0.mk d4
                clear d4
                go_wp2
                go_ret
                refine ⟨?_, by first | exact pw_below_drewN HB.out _ | exact pw_below_drewN (pw_below_drewN HB.out _) _⟩
                have e_ : rootGood a0 = true := rootGood_end (by rw [← HS.out]; exact W1) (by rw [← HS.out]; exact W2) hp.out hall.out (.inr (by rw [← HS.out]; have := HBB.out; have := D1.out; omega)) (.inl (by rw [← HX14.out]; exact D4.out))
                rw [← H.out, e_]; rfl
              · have d4_ : (x14 == 0) = false := beq_eq_false_iff_ne.mpr d4
                have D4 := Aside0.mk d4
                clear d4
                go_wp2
                go_ret
                refine ⟨?_, by first | exact pw_below_drewN HB.out _ | exact pw_below_drewN (pw_below_drewN HB.out _) _⟩
                have e_ : rootGood a0 = false := rootGood_13 (by rw [← HX14.out]; exact D4.out) (by rw [← HS.out]; have := HBB.out; have := D3.out; omega)
                rw [← H.out, e_]; rfl
          · have d1_ : decide (12 < bb) = false := decide_eq_false d1
            have D1 := Aside0.mk d1
            clear d1
            by_cases d2 : x13 = 0
            · have d2_ : (x13 == 0) = true := beq_iff_eq.mpr d2
              have D2 := Aside0.mk d2
              clear d2
              by_cases d3 : 140 < bb
              · have d3_ : decide (140 < bb) = true := decide_eq_true d3
                have D3 := Aside0.mk d3
                clear d3
                go_wp2
                go_ret
                refine ⟨?_, by first | exact pw_below_drewN HB.out _ | exact pw_below_drewN (pw_below_drewN HB.out _) _⟩
                have e_ : rootGood a0 = true := rootGood_end (by rw [← HS.out]; exact W1) (by rw [← HS.out]; exact W2) hp.out hall.out (.inl (by rw [← HX13.out]; exact D2.out)) (.inr (by rw [← HS.out]; have := HBB.out; have := D3.out; omega))
                rw [← H.out, e_]; rfl
              · have d3_ : decide (140 < bb) = false := decide_eq_false d3
                have D3 := Aside0.mk d3
                clear d3
                by_cases d4 : x14 = 0
                · have d4_ : (x14 == 0) = true := beq_iff_eq.mpr d4
                  have D4 := Aside0.mk d4
                  clear d4
                  go_wp2
                  go_ret
                  refine ⟨?_, by first | exact pw_below_drewN HB.out _ | exact pw_below_drewN (pw_below_drewN HB.out _) _⟩
                  have e_ : rootGood a0 = true := rootGood_end (by rw [← HS.out]; exact W1) (by rw [← HS.out]; exact W2) hp.out hall.out (.inl (by rw [← HX13.out]; exact D2.out)) (.inl (by rw [← HX14.out]; exact D4.out))
                  rw [← H.out, e_]; rfl
                · have d4_ : (x14 == 0) = false := beq_eq_false_iff_ne.mpr d4
                  have D4 := Aside0.mk d4
                  clear d4
                  go_wp2
                  go_ret
                  refine ⟨?_, by first | exact pw_below_drewN HB.out _ | exact pw_below_drewN (pw_below_drewN HB.out _) _⟩
                  have e_ : rootGood a0 = false := rootGood_13 (by rw [← HX14.out]; exact D4.out) (by rw [← HS.out]; have := HBB.out; have := D3.out; omega)
                  rw [← H.out, e_]; rfl
            · have d2_ : (x13 == 0) = false := beq_eq_false_iff_ne.mpr d2
              have D2 := Aside0.mk d2
              clear d2
              go_wp2
              go_ret
              refine ⟨?_, by first | exact pw_below_drewN HB.out _ | exact pw_below_drewN (pw_below_drewN HB.out _) _⟩
              have e_ : rootGood a0 = false := rootGood_12 (by rw [← HX13.out]; exact D2.out) (by rw [← HS.out]; have := HBB.out; have := D1.out; omega)
              rw [← H.out, e_]; rfl

open Go.Proofs.YtkghgjehjchajaaW Go.Proofs.YtkghgjehjchajaaW.PrintHand Go.Proofs.YtkghgjehjchajaaW.PrintHx
/-! ### impl_Inode_right: function 52 -/
open Go.Proofs.YtkghgjehjchajaaW.PrintLe Go.Proofs.YtkghgjehjchajaaW.PrintEqW Go.Proofs.YtkghgjehjchajaaW.PrintIno

def impl_Inode_right.f (a0 : List Int) : Option Bool := some (inodeGood a0)
theorem impl_Inode_right.win (a b c : Int) (r : Bool) (h : rng a b c = r) : impl_within.f a b c = some r := by
  subst h
  unfold impl_within.f rng
  by_cases h : b ≤ a <;> simp [h]
set_option maxHeartbeats 8000000 in
set_option maxRecDepth 100000 in
theorem impl_Inode_right.calls (a0 : List Int) (n0 : a0.length = 24) (r : Bool) (w : World) (h : impl_Inode_right.f a0 = some r) :
    Calls Try.prog 52 #[.agg (nums .i64 a0).toArray] w fun e w' => e = .returned (.bool r) ∧ Below w.heap.size w w' := by
  have H := Aside0.mk (Option.some.inj h)
  have N_ := Aside0.mk n0
  clear n0 h
  obtain ⟨x0, hx0⟩ : ∃ x, x = a0.getD 0 0 := ⟨_, rfl⟩
  obtain ⟨x1, hx1⟩ : ∃ x, x = a0.getD 1 0 := ⟨_, rfl⟩
  obtain ⟨x2, hx2⟩ : ∃ x, x = a0.getD 2 0 := ⟨_, rfl⟩
  obtain ⟨x3, hx3⟩ : ∃ x, x = a0.getD 3 0 := ⟨_, rfl⟩
  obtain ⟨x4, hx4⟩ : ∃ x, x = a0.getD 4 0 := ⟨_, rfl⟩
  obtain ⟨x5, hx5⟩ : ∃ x, x = a0.getD 5 0 := ⟨_, rfl⟩
  obtain ⟨x6, hx6⟩ : ∃ x, x = a0.getD 6 0 := ⟨_, rfl⟩
  obtain ⟨x7, hx7⟩ : ∃ x, x = a0.getD 7 0 := ⟨_, rfl⟩
  obtain ⟨x8, hx8⟩ : ∃ x, x = a0.getD 8 0 := ⟨_, rfl⟩
  obtain ⟨xr, hxr⟩ : ∃ x, x = seg a0 9 15 := ⟨_, rfl⟩
  have NR := Aside0.mk (show xr.length = 15 by rw [hxr]; exact part_len N_.out (by decide))
  have HIN := Aside0.mk (show inodeGood a0 = (decide (a0 = List.replicate 24 0) || inodeOk x0 x1 x2 x3 x4 x5 x6 x7 x8 xr) by rw [hx0, hx1, hx2, hx3, hx4, hx5, hx6, hx7, hx8, hxr]; rfl)
  have X0 := Aside0.mk hx0
  clear hx0
  have X1 := Aside0.mk hx1
  clear hx1
  have X2 := Aside0.mk hx2
  clear hx2
  have X3 := Aside0.mk hx3
  clear hx3
  have X4 := Aside0.mk hx4
  clear hx4
  have X5 := Aside0.mk hx5
  clear hx5
  have X6 := Aside0.mk hx6
  clear hx6
  have X7 := Aside0.mk hx7
  clear hx7
  have X8 := Aside0.mk hx8
  clear hx8
  obtain ⟨y0, hy0⟩ : ∃ x, x = a0.getD 9 0 := ⟨_, rfl⟩
  obtain ⟨y1, hy1⟩ : ∃ x, x = a0.getD 10 0 := ⟨_, rfl⟩
  obtain ⟨y2, hy2⟩ : ∃ x, x = a0.getD 11 0 := ⟨_, rfl⟩
  obtain ⟨y3, hy3⟩ : ∃ x, x = a0.getD 12 0 := ⟨_, rfl⟩
  obtain ⟨y4, hy4⟩ : ∃ x, x = a0.getD 13 0 := ⟨_, rfl⟩
  obtain ⟨y5, hy5⟩ : ∃ x, x = a0.getD 14 0 := ⟨_, rfl⟩
  obtain ⟨y6, hy6⟩ : ∃ x, x = a0.getD 15 0 := ⟨_, rfl⟩
  obtain ⟨y7, hy7⟩ : ∃ x, x = a0.getD 16 0 := ⟨_, rfl⟩
  obtain ⟨y8, hy8⟩ : ∃ x, x = a0.getD 17 0 := ⟨_, rfl⟩
  obtain ⟨y9, hy9⟩ : ∃ x, x = a0.getD 18 0 := ⟨_, rfl⟩
  obtain ⟨y10, hy10⟩ : ∃ x, x = a0.getD 19 0 := ⟨_, rfl⟩
  obtain ⟨y11, hy11⟩ : ∃ x, x = a0.getD 20 0 := ⟨_, rfl⟩
  obtain ⟨y12, hy12⟩ : ∃ x, x = a0.getD 21 0 := ⟨_, rfl⟩
  obtain ⟨y13, hy13⟩ : ∃ x, x = a0.getD 22 0 := ⟨_, rfl⟩
  obtain ⟨y14, hy14⟩ : ∃ x, x = a0.getD 23 0 := ⟨_, rfl⟩
  have XY := Aside0.mk (show xr = [y0, y1, y2, y3, y4, y5, y6, y7, y8, y9, y10, y11, y12, y13, y14] by rw [hxr, hy0, hy1, hy2, hy3, hy4, hy5, hy6, hy7, hy8, hy9, hy10, hy11, hy12, hy13, hy14]; exact seg_root N_.out)
  have Y0 := Aside0.mk hy0
  clear hy0
  have Y1 := Aside0.mk hy1
  clear hy1
  have Y2 := Aside0.mk hy2
  clear hy2
  have Y3 := Aside0.mk hy3
  clear hy3
  have Y4 := Aside0.mk hy4
  clear hy4
  have Y5 := Aside0.mk hy5
  clear hy5
  have Y6 := Aside0.mk hy6
  clear hy6
  have Y7 := Aside0.mk hy7
  clear hy7
  have Y8 := Aside0.mk hy8
  clear hy8
  have Y9 := Aside0.mk hy9
  clear hy9
  have Y10 := Aside0.mk hy10
  clear hy10
  have Y11 := Aside0.mk hy11
  clear hy11
  have Y12 := Aside0.mk hy12
  clear hy12
  have Y13 := Aside0.mk hy13
  clear hy13
  have Y14 := Aside0.mk hy14
  clear hy14
  have XR := Aside0.mk hxr
  clear hxr
  have HB0 : Aside0 (Below w.heap.size w w) := ⟨Below.refl _ _⟩
  obtain ⟨s0, Sz0⟩ : ∃ s0, Aside0 (w.heap.size = s0) := ⟨_, ⟨rfl⟩⟩
  have hw0 : w.heap.size ≤ s0 := Nat.le_of_eq Sz0.out
  have hw1 : s0 ≤ w.heap.size := Nat.le_of_eq Sz0.out.symm
  obtain ⟨zz, hzz⟩ : ∃ z, z = List.replicate 24 (0 : Int) := ⟨_, rfl⟩
  have ZZ := Aside0.mk hzz
  have NZ := Aside0.mk (show zz.length = 24 by rw [hzz]; simp)
  have CELLS : Aside0 (∀ W : World, W.heap[s0]? = some (.cells (nums .i64 a0).toArray 42 (0, 0)) → W.cell? ⟨s0, 0, none⟩ = some (.int .i64 x0) ∧ W.cell? ⟨s0, 1, none⟩ = some (.int .i64 x1) ∧ W.cell? ⟨s0, 2, none⟩ = some (.int .i64 x2) ∧ W.cell? ⟨s0, 3, none⟩ = some (.int .i64 x3) ∧ W.cell? ⟨s0, 4, none⟩ = some (.int .i64 x4) ∧ W.cell? ⟨s0, 5, none⟩ = some (.int .i64 x5) ∧ W.cell? ⟨s0, 6, none⟩ = some (.int .i64 x6) ∧ W.cell? ⟨s0, 7, none⟩ = some (.int .i64 x7) ∧ W.cell? ⟨s0, 8, none⟩ = some (.int .i64 x8)) := by
    exact ⟨fun W hW => ⟨by have h_ := row_cell hW 0 (lt_len (n := 24) N_.out (by decide)); rw [← X0.out] at h_; exact h_, by have h_ := row_cell hW 1 (lt_len (n := 24) N_.out (by decide)); rw [← X1.out] at h_; exact h_, by have h_ := row_cell hW 2 (lt_len (n := 24) N_.out (by decide)); rw [← X2.out] at h_; exact h_, by have h_ := row_cell hW 3 (lt_len (n := 24) N_.out (by decide)); rw [← X3.out] at h_; exact h_, by have h_ := row_cell hW 4 (lt_len (n := 24) N_.out (by decide)); rw [← X4.out] at h_; exact h_, by have h_ := row_cell hW 5 (lt_len (n := 24) N_.out (by decide)); rw [← X5.out] at h_; exact h_, by have h_ := row_cell hW 6 (lt_len (n := 24) N_.out (by decide)); rw [← X6.out] at h_; exact h_, by have h_ := row_cell hW 7 (lt_len (n := 24) N_.out (by decide)); rw [← X7.out] at h_; exact h_, by have h_ := row_cell hW 8 (lt_len (n := 24) N_.out (by decide)); rw [← X8.out] at h_; exact h_⟩⟩
  have CELLR : Aside0 (∀ W : World, W.heap[s0]? = some (.cells (nums .i64 a0).toArray 42 (0, 0)) → W.cell? ⟨s0, 9, none⟩ = some (.int .i64 y0) ∧ W.cell? ⟨s0, 10, none⟩ = some (.int .i64 y1) ∧ W.cell? ⟨s0, 11, none⟩ = some (.int .i64 y2) ∧ W.cell? ⟨s0, 12, none⟩ = some (.int .i64 y3) ∧ W.cell? ⟨s0, 13, none⟩ = some (.int .i64 y4) ∧ W.cell? ⟨s0, 14, none⟩ = some (.int .i64 y5) ∧ W.cell? ⟨s0, 15, none⟩ = some (.int .i64 y6) ∧ W.cell? ⟨s0, 16, none⟩ = some (.int .i64 y7) ∧ W.cell? ⟨s0, 17, none⟩ = some (.int .i64 y8) ∧ W.cell? ⟨s0, 18, none⟩ = some (.int .i64 y9) ∧ W.cell? ⟨s0, 19, none⟩ = some (.int .i64 y10) ∧ W.cell? ⟨s0, 20, none⟩ = some (.int .i64 y11) ∧ W.cell? ⟨s0, 21, none⟩ = some (.int .i64 y12) ∧ W.cell? ⟨s0, 22, none⟩ = some (.int .i64 y13) ∧ W.cell? ⟨s0, 23, none⟩ = some (.int .i64 y14)) := by
    exact ⟨fun W hW => ⟨by have h_ := row_cell hW 9 (lt_len (n := 24) N_.out (by decide)); rw [← Y0.out] at h_; exact h_, by have h_ := row_cell hW 10 (lt_len (n := 24) N_.out (by decide)); rw [← Y1.out] at h_; exact h_, by have h_ := row_cell hW 11 (lt_len (n := 24) N_.out (by decide)); rw [← Y2.out] at h_; exact h_, by have h_ := row_cell hW 12 (lt_len (n := 24) N_.out (by decide)); rw [← Y3.out] at h_; exact h_, by have h_ := row_cell hW 13 (lt_len (n := 24) N_.out (by decide)); rw [← Y4.out] at h_; exact h_, by have h_ := row_cell hW 14 (lt_len (n := 24) N_.out (by decide)); rw [← Y5.out] at h_; exact h_, by have h_ := row_cell hW 15 (lt_len (n := 24) N_.out (by decide)); rw [← Y6.out] at h_; exact h_, by have h_ := row_cell hW 16 (lt_len (n := 24) N_.out (by decide)); rw [← Y7.out] at h_; exact h_, by have h_ := row_cell hW 17 (lt_len (n := 24) N_.out (by decide)); rw [← Y8.out] at h_; exact h_, by have h_ := row_cell hW 18 (lt_len (n := 24) N_.out (by decide)); rw [← Y9.out] at h_; exact h_, by have h_ := row_cell hW 19 (lt_len (n := 24) N_.out (by decide)); rw [← Y10.out] at h_; exact h_, by have h_ := row_cell hW 20 (lt_len (n := 24) N_.out (by decide)); rw [← Y11.out] at h_; exact h_, by have h_ := row_cell hW 21 (lt_len (n := 24) N_.out (by decide)); rw [← Y12.out] at h_; exact h_, by have h_ := row_cell hW 22 (lt_len (n := 24) N_.out (by decide)); rw [← Y13.out] at h_; exact h_, by have h_ := row_cell hW 23 (lt_len (n := 24) N_.out (by decide)); rw [← Y14.out] at h_; exact h_⟩⟩
  by_cases hz : a0 = zz
  · have BE := Aside0.mk (decide_eq_true hz)
    have HZ := Aside0.mk (show a0 = List.replicate 24 0 by rw [← hzz]; exact hz)
    clear hz hzz
    go_enter Try.func52, Try.ntmps52
    go_wp2_with (first | ((with_reducible refine gate_dst (N := 1) rfl ?_); refine hx_box rfl 1 rfl 42 (.tmp 0) rfl Sz0 (.agg (nums .i64 a0).toArray) (nums .i64 a0).toArray rfl rfl ?_; intro wn s1 L1 Sz1 b1 g_; have HH := Aside0.mk g_; have HBB := Aside0.mk (below_then HB0.out HB0.out.size b1); clear g_ HB0 b1; obtain ⟨k0, k1, k2, k3, k4, k5, k6, k7, k8⟩ := CELLS.out wn HH.out) | ((with_reducible refine gate_dst (N := 4) rfl ?_); refine hx_load rfl 42 (.tmp 1) rfl s0 24 rfl Try.underlying42 rfl (by kernel_rfl) HH.out (nums_size _ _ _ N_.out) ?_) | ((with_reducible refine gate_dst (N := 6) rfl ?_); refine wpList_eqw rfl (.tmp 4) (.tmp 5) _ rfl eqw42 (by decide) (by kernel_rfl) a0 zz rfl (by rw [ZZ.out]; rfl) N_.out NZ.out ?_; rw [BE.out]))
    go_ret
    refine ⟨?_, HBB.out⟩
    have e_ : inodeGood a0 = true := by rw [HIN.out, decide_eq_true HZ.out]; rfl
    rw [← H.out, e_]; rfl
  have BE := Aside0.mk (decide_eq_false hz)
  have HZ := Aside0.mk (show ¬ a0 = List.replicate 24 0 by rw [← hzz]; exact hz)
  clear hz hzz
  by_cases hk : x0 = 2
  · have hkb : (x0 == 2) = true := beq_iff_eq.mpr hk
    obtain ⟨pb, hpb⟩ : ∃ b, b = rng x5 1 1000 := ⟨_, rfl⟩
    have hpo : parentOk x0 x5 = pb := by unfold parentOk; rw [if_pos hk, hpb]
    have WP := Aside0.mk (impl_Inode_right.win x5 1 1000 pb hpb.symm)
    clear hk hpb
    obtain ⟨b0, hb0⟩ : ∃ b, b = rng x0 1 3 := ⟨_, rfl⟩
    have R0 := Aside0.mk hb0.symm
    have W0 := Aside0.mk (impl_Inode_right.win x0 1 3 b0 R0.out)
    clear hb0
    cases b0 with
    | false =>
      go_enter Try.func52, Try.ntmps52
      go_wp2_with (first | ((with_reducible refine gate_dst (N := 1) rfl ?_); refine hx_box rfl 1 rfl 42 (.tmp 0) rfl Sz0 (.agg (nums .i64 a0).toArray) (nums .i64 a0).toArray rfl rfl ?_; intro wn s1 L1 Sz1 b1 g_; have HH := Aside0.mk g_; have HBB := Aside0.mk (below_then HB0.out HB0.out.size b1); clear g_ HB0 b1; obtain ⟨k0, k1, k2, k3, k4, k5, k6, k7, k8⟩ := CELLS.out wn HH.out) | ((with_reducible refine gate_dst (N := 4) rfl ?_); refine hx_load rfl 42 (.tmp 1) rfl s0 24 rfl Try.underlying42 rfl (by kernel_rfl) HH.out (nums_size _ _ _ N_.out) ?_) | ((with_reducible refine gate_dst (N := 6) rfl ?_); refine wpList_eqw rfl (.tmp 4) (.tmp 5) _ rfl eqw42 (by decide) (by kernel_rfl) a0 zz rfl (by rw [ZZ.out]; rfl) N_.out NZ.out ?_; rw [BE.out]) | (go_at_call 71; (first | (with_reducible refine (impl_within.calls x5 1 1000 pb _ WP.out).mono ?_) | (with_reducible refine (impl_within.calls x0 1 3 false _ W0.out).mono ?_)); rintro e_ wn ⟨rfl, d_⟩; have b_ := kept_drawn d_; have X_ := Aside0.mk (blk_below HH.out b_); have Y_ := Aside0.mk (below_then HBB.out HBB.out.size b_); clear b_ d_ HH HBB k0 k1 k2 k3 k4 k5 k6 k7 k8; have HH := X_; have HBB := Y_; clear X_ Y_; obtain ⟨k0, k1, k2, k3, k4, k5, k6, k7, k8⟩ := CELLS.out wn HH.out))
      go_ret
      refine ⟨?_, HBB.out⟩
      have e_ : inodeGood a0 = false := by rw [HIN.out, decide_eq_false HZ.out]; unfold inodeOk; rw [R0.out]; rfl
      rw [← H.out, e_]; rfl
    | true =>
      obtain ⟨b1, hb1⟩ : ∃ b, b = rng x1 1 1000 := ⟨_, rfl⟩
      have R1 := Aside0.mk hb1.symm
      have W1 := Aside0.mk (impl_Inode_right.win x1 1 1000 b1 R1.out)
      clear hb1
      cases b1 with
      | false =>
        go_enter Try.func52, Try.ntmps52
        go_wp2_with (first | ((with_reducible refine gate_dst (N := 1) rfl ?_); refine hx_box rfl 1 rfl 42 (.tmp 0) rfl Sz0 (.agg (nums .i64 a0).toArray) (nums .i64 a0).toArray rfl rfl ?_; intro wn s1 L1 Sz1 b1 g_; have HH := Aside0.mk g_; have HBB := Aside0.mk (below_then HB0.out HB0.out.size b1); clear g_ HB0 b1; obtain ⟨k0, k1, k2, k3, k4, k5, k6, k7, k8⟩ := CELLS.out wn HH.out) | ((with_reducible refine gate_dst (N := 4) rfl ?_); refine hx_load rfl 42 (.tmp 1) rfl s0 24 rfl Try.underlying42 rfl (by kernel_rfl) HH.out (nums_size _ _ _ N_.out) ?_) | ((with_reducible refine gate_dst (N := 6) rfl ?_); refine wpList_eqw rfl (.tmp 4) (.tmp 5) _ rfl eqw42 (by decide) (by kernel_rfl) a0 zz rfl (by rw [ZZ.out]; rfl) N_.out NZ.out ?_; rw [BE.out]) | (go_at_call 71; (first | (with_reducible refine (impl_within.calls x5 1 1000 pb _ WP.out).mono ?_) | (with_reducible refine (impl_within.calls x0 1 3 true _ W0.out).mono ?_) | (with_reducible refine (impl_within.calls x1 1 1000 false _ W1.out).mono ?_)); rintro e_ wn ⟨rfl, d_⟩; have b_ := kept_drawn d_; have X_ := Aside0.mk (blk_below HH.out b_); have Y_ := Aside0.mk (below_then HBB.out HBB.out.size b_); clear b_ d_ HH HBB k0 k1 k2 k3 k4 k5 k6 k7 k8; have HH := X_; have HBB := Y_; clear X_ Y_; obtain ⟨k0, k1, k2, k3, k4, k5, k6, k7, k8⟩ := CELLS.out wn HH.out))
        go_ret
        refine ⟨?_, HBB.out⟩
        have e_ : inodeGood a0 = false := by rw [HIN.out, decide_eq_false HZ.out]; unfold inodeOk; rw [R0.out, R1.out]; rfl
        rw [← H.out, e_]; rfl
      | true =>
        obtain ⟨b2, hb2⟩ : ∃ b, b = rng x2 0 4095 := ⟨_, rfl⟩
        have R2 := Aside0.mk hb2.symm
        have W2 := Aside0.mk (impl_Inode_right.win x2 0 4095 b2 R2.out)
        clear hb2
        cases b2 with
        | false =>
          go_enter Try.func52, Try.ntmps52
          go_wp2_with (first | ((with_reducible refine gate_dst (N := 1) rfl ?_); refine hx_box rfl 1 rfl 42 (.tmp 0) rfl Sz0 (.agg (nums .i64 a0).toArray) (nums .i64 a0).toArray rfl rfl ?_; intro wn s1 L1 Sz1 b1 g_; have HH := Aside0.mk g_; have HBB := Aside0.mk (below_then HB0.out HB0.out.size b1); clear g_ HB0 b1; obtain ⟨k0, k1, k2, k3, k4, k5, k6, k7, k8⟩ := CELLS.out wn HH.out) | ((with_reducible refine gate_dst (N := 4) rfl ?_); refine hx_load rfl 42 (.tmp 1) rfl s0 24 rfl Try.underlying42 rfl (by kernel_rfl) HH.out (nums_size _ _ _ N_.out) ?_) | ((with_reducible refine gate_dst (N := 6) rfl ?_); refine wpList_eqw rfl (.tmp 4) (.tmp 5) _ rfl eqw42 (by decide) (by kernel_rfl) a0 zz rfl (by rw [ZZ.out]; rfl) N_.out NZ.out ?_; rw [BE.out]) | (go_at_call 71; (first | (with_reducible refine (impl_within.calls x5 1 1000 pb _ WP.out).mono ?_) | (with_reducible refine (impl_within.calls x0 1 3 true _ W0.out).mono ?_) | (with_reducible refine (impl_within.calls x1 1 1000 true _ W1.out).mono ?_) | (with_reducible refine (impl_within.calls x2 0 4095 false _ W2.out).mono ?_)); rintro e_ wn ⟨rfl, d_⟩; have b_ := kept_drawn d_; have X_ := Aside0.mk (blk_below HH.out b_); have Y_ := Aside0.mk (below_then HBB.out HBB.out.size b_); clear b_ d_ HH HBB k0 k1 k2 k3 k4 k5 k6 k7 k8; have HH := X_; have HBB := Y_; clear X_ Y_; obtain ⟨k0, k1, k2, k3, k4, k5, k6, k7, k8⟩ := CELLS.out wn HH.out))
          go_ret
          refine ⟨?_, HBB.out⟩
          have e_ : inodeGood a0 = false := by rw [HIN.out, decide_eq_false HZ.out]; unfold inodeOk; rw [R0.out, R1.out, R2.out]; rfl
          rw [← H.out, e_]; rfl
        | true =>
          obtain ⟨b3, hb3⟩ : ∃ b, b = rng x3 0 65535 := ⟨_, rfl⟩
          have R3 := Aside0.mk hb3.symm
          have W3 := Aside0.mk (impl_Inode_right.win x3 0 65535 b3 R3.out)
          clear hb3
          cases b3 with
          | false =>
            go_enter Try.func52, Try.ntmps52
            go_wp2_with (first | ((with_reducible refine gate_dst (N := 1) rfl ?_); refine hx_box rfl 1 rfl 42 (.tmp 0) rfl Sz0 (.agg (nums .i64 a0).toArray) (nums .i64 a0).toArray rfl rfl ?_; intro wn s1 L1 Sz1 b1 g_; have HH := Aside0.mk g_; have HBB := Aside0.mk (below_then HB0.out HB0.out.size b1); clear g_ HB0 b1; obtain ⟨k0, k1, k2, k3, k4, k5, k6, k7, k8⟩ := CELLS.out wn HH.out) | ((with_reducible refine gate_dst (N := 4) rfl ?_); refine hx_load rfl 42 (.tmp 1) rfl s0 24 rfl Try.underlying42 rfl (by kernel_rfl) HH.out (nums_size _ _ _ N_.out) ?_) | ((with_reducible refine gate_dst (N := 6) rfl ?_); refine wpList_eqw rfl (.tmp 4) (.tmp 5) _ rfl eqw42 (by decide) (by kernel_rfl) a0 zz rfl (by rw [ZZ.out]; rfl) N_.out NZ.out ?_; rw [BE.out]) | (go_at_call 71; (first | (with_reducible refine (impl_within.calls x5 1 1000 pb _ WP.out).mono ?_) | (with_reducible refine (impl_within.calls x0 1 3 true _ W0.out).mono ?_) | (with_reducible refine (impl_within.calls x1 1 1000 true _ W1.out).mono ?_) | (with_reducible refine (impl_within.calls x2 0 4095 true _ W2.out).mono ?_) | (with_reducible refine (impl_within.calls x3 0 65535 false _ W3.out).mono ?_)); rintro e_ wn ⟨rfl, d_⟩; have b_ := kept_drawn d_; have X_ := Aside0.mk (blk_below HH.out b_); have Y_ := Aside0.mk (below_then HBB.out HBB.out.size b_); clear b_ d_ HH HBB k0 k1 k2 k3 k4 k5 k6 k7 k8; have HH := X_; have HBB := Y_; clear X_ Y_; obtain ⟨k0, k1, k2, k3, k4, k5, k6, k7, k8⟩ := CELLS.out wn HH.out))
            go_ret
            refine ⟨?_, HBB.out⟩
            have e_ : inodeGood a0 = false := by rw [HIN.out, decide_eq_false HZ.out]; unfold inodeOk; rw [R0.out, R1.out, R2.out, R3.out]; rfl
            rw [← H.out, e_]; rfl
          | true =>
            obtain ⟨b4, hb4⟩ : ∃ b, b = rng x4 0 65535 := ⟨_, rfl⟩
            have R4 := Aside0.mk hb4.symm
            have W4 := Aside0.mk (impl_Inode_right.win x4 0 65535 b4 R4.out)
            clear hb4
            cases b4 with
            | false =>
              go_enter Try.func52, Try.ntmps52
              go_wp2_with (first | ((with_reducible refine gate_dst (N := 1) rfl ?_); refine hx_box rfl 1 rfl 42 (.tmp 0) rfl Sz0 (.agg (nums .i64 a0).toArray) (nums .i64 a0).toArray rfl rfl ?_; intro wn s1 L1 Sz1 b1 g_; have HH := Aside0.mk g_; have HBB := Aside0.mk (below_then HB0.out HB0.out.size b1); clear g_ HB0 b1; obtain ⟨k0, k1, k2, k3, k4, k5, k6, k7, k8⟩ := CELLS.out wn HH.out) | ((with_reducible refine gate_dst (N := 4) rfl ?_); refine hx_load rfl 42 (.tmp 1) rfl s0 24 rfl Try.underlying42 rfl (by kernel_rfl) HH.out (nums_size _ _ _ N_.out) ?_) | ((with_reducible refine gate_dst (N := 6) rfl ?_); refine wpList_eqw rfl (.tmp 4) (.tmp 5) _ rfl eqw42 (by decide) (by kernel_rfl) a0 zz rfl (by rw [ZZ.out]; rfl) N_.out NZ.out ?_; rw [BE.out]) | (go_at_call 71; (first | (with_reducible refine (impl_within.calls x5 1 1000 pb _ WP.out).mono ?_) | (with_reducible refine (impl_within.calls x0 1 3 true _ W0.out).mono ?_) | (with_reducible refine (impl_within.calls x1 1 1000 true _ W1.out).mono ?_) | (with_reducible refine (impl_within.calls x2 0 4095 true _ W2.out).mono ?_) | (with_reducible refine (impl_within.calls x3 0 65535 true _ W3.out).mono ?_) | (with_reducible refine (impl_within.calls x4 0 65535 false _ W4.out).mono ?_)); rintro e_ wn ⟨rfl, d_⟩; have b_ := kept_drawn d_; have X_ := Aside0.mk (blk_below HH.out b_); have Y_ := Aside0.mk (below_then HBB.out HBB.out.size b_); clear b_ d_ HH HBB k0 k1 k2 k3 k4 k5 k6 k7 k8; have HH := X_; have HBB := Y_; clear X_ Y_; obtain ⟨k0, k1, k2, k3, k4, k5, k6, k7, k8⟩ := CELLS.out wn HH.out))
              go_ret
              refine ⟨?_, HBB.out⟩
              have e_ : inodeGood a0 = false := by rw [HIN.out, decide_eq_false HZ.out]; unfold inodeOk; rw [R0.out, R1.out, R2.out, R3.out, R4.out]; rfl
              rw [← H.out, e_]; rfl
            | true =>
              have R5 := Aside0.mk hpo
              clear hpo
              cases pb with
              | false =>
                go_enter Try.func52, Try.ntmps52
                go_wp2_with (first | ((with_reducible refine gate_dst (N := 1) rfl ?_); refine hx_box rfl 1 rfl 42 (.tmp 0) rfl Sz0 (.agg (nums .i64 a0).toArray) (nums .i64 a0).toArray rfl rfl ?_; intro wn s1 L1 Sz1 b1 g_; have HH := Aside0.mk g_; have HBB := Aside0.mk (below_then HB0.out HB0.out.size b1); clear g_ HB0 b1; obtain ⟨k0, k1, k2, k3, k4, k5, k6, k7, k8⟩ := CELLS.out wn HH.out) | ((with_reducible refine gate_dst (N := 4) rfl ?_); refine hx_load rfl 42 (.tmp 1) rfl s0 24 rfl Try.underlying42 rfl (by kernel_rfl) HH.out (nums_size _ _ _ N_.out) ?_) | ((with_reducible refine gate_dst (N := 6) rfl ?_); refine wpList_eqw rfl (.tmp 4) (.tmp 5) _ rfl eqw42 (by decide) (by kernel_rfl) a0 zz rfl (by rw [ZZ.out]; rfl) N_.out NZ.out ?_; rw [BE.out]) | (go_at_call 71; (first | (with_reducible refine (impl_within.calls x5 1 1000 false _ WP.out).mono ?_) | (with_reducible refine (impl_within.calls x0 1 3 true _ W0.out).mono ?_) | (with_reducible refine (impl_within.calls x1 1 1000 true _ W1.out).mono ?_) | (with_reducible refine (impl_within.calls x2 0 4095 true _ W2.out).mono ?_) | (with_reducible refine (impl_within.calls x3 0 65535 true _ W3.out).mono ?_) | (with_reducible refine (impl_within.calls x4 0 65535 true _ W4.out).mono ?_)); rintro e_ wn ⟨rfl, d_⟩; have b_ := kept_drawn d_; have X_ := Aside0.mk (blk_below HH.out b_); have Y_ := Aside0.mk (below_then HBB.out HBB.out.size b_); clear b_ d_ HH HBB k0 k1 k2 k3 k4 k5 k6 k7 k8; have HH := X_; have HBB := Y_; clear X_ Y_; obtain ⟨k0, k1, k2, k3, k4, k5, k6, k7, k8⟩ := CELLS.out wn HH.out))
                go_ret
                refine ⟨?_, HBB.out⟩
                have e_ : inodeGood a0 = false := by rw [HIN.out, decide_eq_false HZ.out]; unfold inodeOk; rw [R0.out, R1.out, R2.out, R3.out, R4.out, R5.out]; rfl
                rw [← H.out, e_]; rfl
              | true =>
                obtain ⟨b6, hb6⟩ : ∃ b, b = rng x6 1 1099511627776 := ⟨_, rfl⟩
                have R6 := Aside0.mk hb6.symm
                have W6 := Aside0.mk (impl_Inode_right.win x6 1 1099511627776 b6 R6.out)
                clear hb6
                cases b6 with
                | false =>
                  go_enter Try.func52, Try.ntmps52
                  go_wp2_with (first | ((with_reducible refine gate_dst (N := 1) rfl ?_); refine hx_box rfl 1 rfl 42 (.tmp 0) rfl Sz0 (.agg (nums .i64 a0).toArray) (nums .i64 a0).toArray rfl rfl ?_; intro wn s1 L1 Sz1 b1 g_; have HH := Aside0.mk g_; have HBB := Aside0.mk (below_then HB0.out HB0.out.size b1); clear g_ HB0 b1; obtain ⟨k0, k1, k2, k3, k4, k5, k6, k7, k8⟩ := CELLS.out wn HH.out) | ((with_reducible refine gate_dst (N := 4) rfl ?_); refine hx_load rfl 42 (.tmp 1) rfl s0 24 rfl Try.underlying42 rfl (by kernel_rfl) HH.out (nums_size _ _ _ N_.out) ?_) | ((with_reducible refine gate_dst (N := 6) rfl ?_); refine wpList_eqw rfl (.tmp 4) (.tmp 5) _ rfl eqw42 (by decide) (by kernel_rfl) a0 zz rfl (by rw [ZZ.out]; rfl) N_.out NZ.out ?_; rw [BE.out]) | (go_at_call 71; (first | (with_reducible refine (impl_within.calls x5 1 1000 true _ WP.out).mono ?_) | (with_reducible refine (impl_within.calls x0 1 3 true _ W0.out).mono ?_) | (with_reducible refine (impl_within.calls x1 1 1000 true _ W1.out).mono ?_) | (with_reducible refine (impl_within.calls x2 0 4095 true _ W2.out).mono ?_) | (with_reducible refine (impl_within.calls x3 0 65535 true _ W3.out).mono ?_) | (with_reducible refine (impl_within.calls x4 0 65535 true _ W4.out).mono ?_) | (with_reducible refine (impl_within.calls x6 1 1099511627776 false _ W6.out).mono ?_)); rintro e_ wn ⟨rfl, d_⟩; have b_ := kept_drawn d_; have X_ := Aside0.mk (blk_below HH.out b_); have Y_ := Aside0.mk (below_then HBB.out HBB.out.size b_); clear b_ d_ HH HBB k0 k1 k2 k3 k4 k5 k6 k7 k8; have HH := X_; have HBB := Y_; clear X_ Y_; obtain ⟨k0, k1, k2, k3, k4, k5, k6, k7, k8⟩ := CELLS.out wn HH.out))
                  go_ret
                  refine ⟨?_, HBB.out⟩
                  have e_ : inodeGood a0 = false := by rw [HIN.out, decide_eq_false HZ.out]; unfold inodeOk; rw [R0.out, R1.out, R2.out, R3.out, R4.out, R5.out, R6.out]; rfl
                  rw [← H.out, e_]; rfl
                | true =>
                  obtain ⟨b7, hb7⟩ : ∃ b, b = rng x7 1 1099511627776 := ⟨_, rfl⟩
                  have R7 := Aside0.mk hb7.symm
                  have W7 := Aside0.mk (impl_Inode_right.win x7 1 1099511627776 b7 R7.out)
                  clear hb7
                  cases b7 with
                  | false =>
                    go_enter Try.func52, Try.ntmps52
                    go_wp2_with (first | ((with_reducible refine gate_dst (N := 1) rfl ?_); refine hx_box rfl 1 rfl 42 (.tmp 0) rfl Sz0 (.agg (nums .i64 a0).toArray) (nums .i64 a0).toArray rfl rfl ?_; intro wn s1 L1 Sz1 b1 g_; have HH := Aside0.mk g_; have HBB := Aside0.mk (below_then HB0.out HB0.out.size b1); clear g_ HB0 b1; obtain ⟨k0, k1, k2, k3, k4, k5, k6, k7, k8⟩ := CELLS.out wn HH.out) | ((with_reducible refine gate_dst (N := 4) rfl ?_); refine hx_load rfl 42 (.tmp 1) rfl s0 24 rfl Try.underlying42 rfl (by kernel_rfl) HH.out (nums_size _ _ _ N_.out) ?_) | ((with_reducible refine gate_dst (N := 6) rfl ?_); refine wpList_eqw rfl (.tmp 4) (.tmp 5) _ rfl eqw42 (by decide) (by kernel_rfl) a0 zz rfl (by rw [ZZ.out]; rfl) N_.out NZ.out ?_; rw [BE.out]) | (go_at_call 71; (first | (with_reducible refine (impl_within.calls x5 1 1000 true _ WP.out).mono ?_) | (with_reducible refine (impl_within.calls x0 1 3 true _ W0.out).mono ?_) | (with_reducible refine (impl_within.calls x1 1 1000 true _ W1.out).mono ?_) | (with_reducible refine (impl_within.calls x2 0 4095 true _ W2.out).mono ?_) | (with_reducible refine (impl_within.calls x3 0 65535 true _ W3.out).mono ?_) | (with_reducible refine (impl_within.calls x4 0 65535 true _ W4.out).mono ?_) | (with_reducible refine (impl_within.calls x6 1 1099511627776 true _ W6.out).mono ?_) | (with_reducible refine (impl_within.calls x7 1 1099511627776 false _ W7.out).mono ?_)); rintro e_ wn ⟨rfl, d_⟩; have b_ := kept_drawn d_; have X_ := Aside0.mk (blk_below HH.out b_); have Y_ := Aside0.mk (below_then HBB.out HBB.out.size b_); clear b_ d_ HH HBB k0 k1 k2 k3 k4 k5 k6 k7 k8; have HH := X_; have HBB := Y_; clear X_ Y_; obtain ⟨k0, k1, k2, k3, k4, k5, k6, k7, k8⟩ := CELLS.out wn HH.out))
                    go_ret
                    refine ⟨?_, HBB.out⟩
                    have e_ : inodeGood a0 = false := by rw [HIN.out, decide_eq_false HZ.out]; unfold inodeOk; rw [R0.out, R1.out, R2.out, R3.out, R4.out, R5.out, R6.out, R7.out]; rfl
                    rw [← H.out, e_]; rfl
                  | true =>
                    obtain ⟨b8, hb8⟩ : ∃ b, b = rng x8 1 1099511627776 := ⟨_, rfl⟩
                    have R8 := Aside0.mk hb8.symm
                    have W8 := Aside0.mk (impl_Inode_right.win x8 1 1099511627776 b8 R8.out)
                    clear hb8
                    cases b8 with
                    | false =>
                      go_enter Try.func52, Try.ntmps52
                      go_wp2_with (first | ((with_reducible refine gate_dst (N := 1) rfl ?_); refine hx_box rfl 1 rfl 42 (.tmp 0) rfl Sz0 (.agg (nums .i64 a0).toArray) (nums .i64 a0).toArray rfl rfl ?_; intro wn s1 L1 Sz1 b1 g_; have HH := Aside0.mk g_; have HBB := Aside0.mk (below_then HB0.out HB0.out.size b1); clear g_ HB0 b1; obtain ⟨k0, k1, k2, k3, k4, k5, k6, k7, k8⟩ := CELLS.out wn HH.out) | ((with_reducible refine gate_dst (N := 4) rfl ?_); refine hx_load rfl 42 (.tmp 1) rfl s0 24 rfl Try.underlying42 rfl (by kernel_rfl) HH.out (nums_size _ _ _ N_.out) ?_) | ((with_reducible refine gate_dst (N := 6) rfl ?_); refine wpList_eqw rfl (.tmp 4) (.tmp 5) _ rfl eqw42 (by decide) (by kernel_rfl) a0 zz rfl (by rw [ZZ.out]; rfl) N_.out NZ.out ?_; rw [BE.out]) | (go_at_call 71; (first | (with_reducible refine (impl_within.calls x8 1 1099511627776 false _ W8.out).mono ?_)); rintro e_ wn ⟨rfl, d_⟩; have b_ := kept_drawn d_; have X_ := Aside0.mk (blk_below HH.out b_); have Y_ := Aside0.mk (below_then HBB.out HBB.out.size b_); clear b_ d_ HH HBB k0 k1 k2 k3 k4 k5 k6 k7 k8; have HH := X_; have HBB := Y_; clear X_ Y_; obtain ⟨k0, k1, k2, k3, k4, k5, k6, k7, k8⟩ := CELLS.out wn HH.out; obtain ⟨q0, q1, q2, q3, q4, q5, q6, q7, q8, q9, q10, q11, q12, q13, q14⟩ := CELLR.out wn HH.out) | (go_at_call 71; (first | (with_reducible refine (impl_within.calls x5 1 1000 true _ WP.out).mono ?_) | (with_reducible refine (impl_within.calls x0 1 3 true _ W0.out).mono ?_) | (with_reducible refine (impl_within.calls x1 1 1000 true _ W1.out).mono ?_) | (with_reducible refine (impl_within.calls x2 0 4095 true _ W2.out).mono ?_) | (with_reducible refine (impl_within.calls x3 0 65535 true _ W3.out).mono ?_) | (with_reducible refine (impl_within.calls x4 0 65535 true _ W4.out).mono ?_) | (with_reducible refine (impl_within.calls x6 1 1099511627776 true _ W6.out).mono ?_) | (with_reducible refine (impl_within.calls x7 1 1099511627776 true _ W7.out).mono ?_)); rintro e_ wn ⟨rfl, d_⟩; have b_ := kept_drawn d_; have X_ := Aside0.mk (blk_below HH.out b_); have Y_ := Aside0.mk (below_then HBB.out HBB.out.size b_); clear b_ d_ HH HBB k0 k1 k2 k3 k4 k5 k6 k7 k8; have HH := X_; have HBB := Y_; clear X_ Y_; obtain ⟨k0, k1, k2, k3, k4, k5, k6, k7, k8⟩ := CELLS.out wn HH.out))
                      go_ret
                      refine ⟨?_, HBB.out⟩
                      have e_ : inodeGood a0 = false := by rw [HIN.out, decide_eq_false HZ.out]; unfold inodeOk; rw [R0.out, R1.out, R2.out, R3.out, R4.out, R5.out, R6.out, R7.out, R8.out]; rfl
                      rw [← H.out, e_]; rfl
                    | true =>
                      obtain ⟨b9, hb9⟩ : ∃ b, b = rootGood xr := ⟨_, rfl⟩
                      have R9 := Aside0.mk hb9.symm
                      have WR := Aside0.mk (show impl_Root_right.f xr = some b9 by rw [← R9.out]; rfl)
                      clear hb9
                      cases b9 with
                      | false =>
                        have RC : Aside0 (∀ W : World, Calls Try.prog 44 #[.agg #[.int .i64 y0, .int .i64 y1, .int .i64 y2, .int .i64 y3, .int .i64 y4, .int .i64 y5, .int .i64 y6, .int .i64 y7, .int .i64 y8, .int .i64 y9, .int .i64 y10, .int .i64 y11, .int .i64 y12, .int .i64 y13, .int .i64 y14]] W fun e w' => e = .returned (.bool false) ∧ Below W.heap.size W w') := ⟨fun W => by have h_ := impl_Root_right.calls xr NR.out false W WR.out; rw [XY.out] at h_; exact h_⟩
                        go_enter Try.func52, Try.ntmps52
                        go_wp2_with (first | ((with_reducible refine gate_dst (N := 1) rfl ?_); refine hx_box rfl 1 rfl 42 (.tmp 0) rfl Sz0 (.agg (nums .i64 a0).toArray) (nums .i64 a0).toArray rfl rfl ?_; intro wn s1 L1 Sz1 b1 g_; have HH := Aside0.mk g_; have HBB := Aside0.mk (below_then HB0.out HB0.out.size b1); clear g_ HB0 b1; obtain ⟨k0, k1, k2, k3, k4, k5, k6, k7, k8⟩ := CELLS.out wn HH.out) | ((with_reducible refine gate_dst (N := 4) rfl ?_); refine hx_load rfl 42 (.tmp 1) rfl s0 24 rfl Try.underlying42 rfl (by kernel_rfl) HH.out (nums_size _ _ _ N_.out) ?_) | ((with_reducible refine gate_dst (N := 6) rfl ?_); refine wpList_eqw rfl (.tmp 4) (.tmp 5) _ rfl eqw42 (by decide) (by kernel_rfl) a0 zz rfl (by rw [ZZ.out]; rfl) N_.out NZ.out ?_; rw [BE.out]) | (go_at_call 71; (first | (with_reducible refine (impl_within.calls x8 1 1099511627776 true _ W8.out).mono ?_)); rintro e_ wn ⟨rfl, d_⟩; have b_ := kept_drawn d_; have X_ := Aside0.mk (blk_below HH.out b_); have Y_ := Aside0.mk (below_then HBB.out HBB.out.size b_); clear b_ d_ HH HBB k0 k1 k2 k3 k4 k5 k6 k7 k8; have HH := X_; have HBB := Y_; clear X_ Y_; obtain ⟨k0, k1, k2, k3, k4, k5, k6, k7, k8⟩ := CELLS.out wn HH.out; obtain ⟨q0, q1, q2, q3, q4, q5, q6, q7, q8, q9, q10, q11, q12, q13, q14⟩ := CELLR.out wn HH.out) | (go_at_call 71; (first | (with_reducible refine (impl_within.calls x5 1 1000 true _ WP.out).mono ?_) | (with_reducible refine (impl_within.calls x0 1 3 true _ W0.out).mono ?_) | (with_reducible refine (impl_within.calls x1 1 1000 true _ W1.out).mono ?_) | (with_reducible refine (impl_within.calls x2 0 4095 true _ W2.out).mono ?_) | (with_reducible refine (impl_within.calls x3 0 65535 true _ W3.out).mono ?_) | (with_reducible refine (impl_within.calls x4 0 65535 true _ W4.out).mono ?_) | (with_reducible refine (impl_within.calls x6 1 1099511627776 true _ W6.out).mono ?_) | (with_reducible refine (impl_within.calls x7 1 1099511627776 true _ W7.out).mono ?_)); rintro e_ wn ⟨rfl, d_⟩; have b_ := kept_drawn d_; have X_ := Aside0.mk (blk_below HH.out b_); have Y_ := Aside0.mk (below_then HBB.out HBB.out.size b_); clear b_ d_ HH HBB k0 k1 k2 k3 k4 k5 k6 k7 k8; have HH := X_; have HBB := Y_; clear X_ Y_; obtain ⟨k0, k1, k2, k3, k4, k5, k6, k7, k8⟩ := CELLS.out wn HH.out) | (go_at_call 44; (first | (with_reducible refine (RC.out _).mono ?_)); rintro e_ wn ⟨rfl, d_⟩; have b_ := d_; have X_ := Aside0.mk (blk_below HH.out b_); have Y_ := Aside0.mk (below_then HBB.out HBB.out.size b_); clear b_ d_ HH HBB k0 k1 k2 k3 k4 k5 k6 k7 k8; have HH := X_; have HBB := Y_; clear X_ Y_; obtain ⟨k0, k1, k2, k3, k4, k5, k6, k7, k8⟩ := CELLS.out wn HH.out))
                        go_ret
                        refine ⟨?_, HBB.out⟩
                        have e_ : inodeGood a0 = false := by rw [HIN.out, decide_eq_false HZ.out]; unfold inodeOk; rw [R0.out, R1.out, R2.out, R3.out, R4.out, R5.out, R6.out, R7.out, R8.out, R9.out]; rfl
                        rw [← H.out, e_]; rfl
                      | true =>
                        have RC : Aside0 (∀ W : World, Calls Try.prog 44 #[.agg #[.int .i64 y0, .int .i64 y1, .int .i64 y2, .int .i64 y3, .int .i64 y4, .int .i64 y5, .int .i64 y6, .int .i64 y7, .int .i64 y8, .int .i64 y9, .int .i64 y10, .int .i64 y11, .int .i64 y12, .int .i64 y13, .int .i64 y14]] W fun e w' => e = .returned (.bool true) ∧ Below W.heap.size W w') := ⟨fun W => by have h_ := impl_Root_right.calls xr NR.out true W WR.out; rw [XY.out] at h_; exact h_⟩
                        go_enter Try.func52, Try.ntmps52
                        go_wp2_with (first | ((with_reducible refine gate_dst (N := 1) rfl ?_); refine hx_box rfl 1 rfl 42 (.tmp 0) rfl Sz0 (.agg (nums .i64 a0).toArray) (nums .i64 a0).toArray rfl rfl ?_; intro wn s1 L1 Sz1 b1 g_; have HH := Aside0.mk g_; have HBB := Aside0.mk (below_then HB0.out HB0.out.size b1); clear g_ HB0 b1; obtain ⟨k0, k1, k2, k3, k4, k5, k6, k7, k8⟩ := CELLS.out wn HH.out) | ((with_reducible refine gate_dst (N := 4) rfl ?_); refine hx_load rfl 42 (.tmp 1) rfl s0 24 rfl Try.underlying42 rfl (by kernel_rfl) HH.out (nums_size _ _ _ N_.out) ?_) | ((with_reducible refine gate_dst (N := 6) rfl ?_); refine wpList_eqw rfl (.tmp 4) (.tmp 5) _ rfl eqw42 (by decide) (by kernel_rfl) a0 zz rfl (by rw [ZZ.out]; rfl) N_.out NZ.out ?_; rw [BE.out]) | (go_at_call 71; (first | (with_reducible refine (impl_within.calls x8 1 1099511627776 true _ W8.out).mono ?_)); rintro e_ wn ⟨rfl, d_⟩; have b_ := kept_drawn d_; have X_ := Aside0.mk (blk_below HH.out b_); have Y_ := Aside0.mk (below_then HBB.out HBB.out.size b_); clear b_ d_ HH HBB k0 k1 k2 k3 k4 k5 k6 k7 k8; have HH := X_; have HBB := Y_; clear X_ Y_; obtain ⟨k0, k1, k2, k3, k4, k5, k6, k7, k8⟩ := CELLS.out wn HH.out; obtain ⟨q0, q1, q2, q3, q4, q5, q6, q7, q8, q9, q10, q11, q12, q13, q14⟩ := CELLR.out wn HH.out) | (go_at_call 71; (first | (with_reducible refine (impl_within.calls x5 1 1000 true _ WP.out).mono ?_) | (with_reducible refine (impl_within.calls x0 1 3 true _ W0.out).mono ?_) | (with_reducible refine (impl_within.calls x1 1 1000 true _ W1.out).mono ?_) | (with_reducible refine (impl_within.calls x2 0 4095 true _ W2.out).mono ?_) | (with_reducible refine (impl_within.calls x3 0 65535 true _ W3.out).mono ?_) | (with_reducible refine (impl_within.calls x4 0 65535 true _ W4.out).mono ?_) | (with_reducible refine (impl_within.calls x6 1 1099511627776 true _ W6.out).mono ?_) | (with_reducible refine (impl_within.calls x7 1 1099511627776 true _ W7.out).mono ?_)); rintro e_ wn ⟨rfl, d_⟩; have b_ := kept_drawn d_; have X_ := Aside0.mk (blk_below HH.out b_); have Y_ := Aside0.mk (below_then HBB.out HBB.out.size b_); clear b_ d_ HH HBB k0 k1 k2 k3 k4 k5 k6 k7 k8; have HH := X_; have HBB := Y_; clear X_ Y_; obtain ⟨k0, k1, k2, k3, k4, k5, k6, k7, k8⟩ := CELLS.out wn HH.out) | (go_at_call 44; (first | (with_reducible refine (RC.out _).mono ?_)); rintro e_ wn ⟨rfl, d_⟩; have b_ := d_; have X_ := Aside0.mk (blk_below HH.out b_); have Y_ := Aside0.mk (below_then HBB.out HBB.out.size b_); clear b_ d_ HH HBB k0 k1 k2 k3 k4 k5 k6 k7 k8; have HH := X_; have HBB := Y_; clear X_ Y_; obtain ⟨k0, k1, k2, k3, k4, k5, k6, k7, k8⟩ := CELLS.out wn HH.out))
                        go_ret
                        refine ⟨?_, HBB.out⟩
                        have e_ : inodeGood a0 = true := by rw [HIN.out, decide_eq_false HZ.out]; unfold inodeOk; rw [R0.out, R1.out, R2.out, R3.out, R4.out, R5.out, R6.out, R7.out, R8.out, R9.out]; rfl
                        rw [← H.out, e_]; rfl
  · have hkb : (x0 == 2) = false := beq_eq_false_iff_ne.mpr hk
    obtain ⟨pb, hpb⟩ : ∃ b, b = (x5 == 0) := ⟨_, rfl⟩
    have hpo : parentOk x0 x5 = pb := by unfold parentOk; rw [if_neg hk, hpb]; rfl
    have hpb' := hpb.symm
    clear hk hpb
    obtain ⟨b0, hb0⟩ : ∃ b, b = rng x0 1 3 := ⟨_, rfl⟩
    have R0 := Aside0.mk hb0.symm
    have W0 := Aside0.mk (impl_Inode_right.win x0 1 3 b0 R0.out)
    clear hb0
    cases b0 with
    | false =>
      go_enter Try.func52, Try.ntmps52
      go_wp2_with (first | ((with_reducible refine gate_dst (N := 1) rfl ?_); refine hx_box rfl 1 rfl 42 (.tmp 0) rfl Sz0 (.agg (nums .i64 a0).toArray) (nums .i64 a0).toArray rfl rfl ?_; intro wn s1 L1 Sz1 b1 g_; have HH := Aside0.mk g_; have HBB := Aside0.mk (below_then HB0.out HB0.out.size b1); clear g_ HB0 b1; obtain ⟨k0, k1, k2, k3, k4, k5, k6, k7, k8⟩ := CELLS.out wn HH.out) | ((with_reducible refine gate_dst (N := 4) rfl ?_); refine hx_load rfl 42 (.tmp 1) rfl s0 24 rfl Try.underlying42 rfl (by kernel_rfl) HH.out (nums_size _ _ _ N_.out) ?_) | ((with_reducible refine gate_dst (N := 6) rfl ?_); refine wpList_eqw rfl (.tmp 4) (.tmp 5) _ rfl eqw42 (by decide) (by kernel_rfl) a0 zz rfl (by rw [ZZ.out]; rfl) N_.out NZ.out ?_; rw [BE.out]) | (go_at_call 71; (first | (with_reducible refine (impl_within.calls x0 1 3 false _ W0.out).mono ?_)); rintro e_ wn ⟨rfl, d_⟩; have b_ := kept_drawn d_; have X_ := Aside0.mk (blk_below HH.out b_); have Y_ := Aside0.mk (below_then HBB.out HBB.out.size b_); clear b_ d_ HH HBB k0 k1 k2 k3 k4 k5 k6 k7 k8; have HH := X_; have HBB := Y_; clear X_ Y_; obtain ⟨k0, k1, k2, k3, k4, k5, k6, k7, k8⟩ := CELLS.out wn HH.out))
      go_ret
      refine ⟨?_, HBB.out⟩
      have e_ : inodeGood a0 = false := by rw [HIN.out, decide_eq_false HZ.out]; unfold inodeOk; rw [R0.out]; rfl
      rw [← H.out, e_]; rfl
    | true =>
      obtain ⟨b1, hb1⟩ : ∃ b, b = rng x1 1 1000 := ⟨_, rfl⟩
      have R1 := Aside0.mk hb1.symm
      have W1 := Aside0.mk (impl_Inode_right.win x1 1 1000 b1 R1.out)
      clear hb1
      cases b1 with
      | false =>
        go_enter Try.func52, Try.ntmps52
        go_wp2_with (first | ((with_reducible refine gate_dst (N := 1) rfl ?_); refine hx_box rfl 1 rfl 42 (.tmp 0) rfl Sz0 (.agg (nums .i64 a0).toArray) (nums .i64 a0).toArray rfl rfl ?_; intro wn s1 L1 Sz1 b1 g_; have HH := Aside0.mk g_; have HBB := Aside0.mk (below_then HB0.out HB0.out.size b1); clear g_ HB0 b1; obtain ⟨k0, k1, k2, k3, k4, k5, k6, k7, k8⟩ := CELLS.out wn HH.out) | ((with_reducible refine gate_dst (N := 4) rfl ?_); refine hx_load rfl 42 (.tmp 1) rfl s0 24 rfl Try.underlying42 rfl (by kernel_rfl) HH.out (nums_size _ _ _ N_.out) ?_) | ((with_reducible refine gate_dst (N := 6) rfl ?_); refine wpList_eqw rfl (.tmp 4) (.tmp 5) _ rfl eqw42 (by decide) (by kernel_rfl) a0 zz rfl (by rw [ZZ.out]; rfl) N_.out NZ.out ?_; rw [BE.out]) | (go_at_call 71; (first | (with_reducible refine (impl_within.calls x0 1 3 true _ W0.out).mono ?_) | (with_reducible refine (impl_within.calls x1 1 1000 false _ W1.out).mono ?_)); rintro e_ wn ⟨rfl, d_⟩; have b_ := kept_drawn d_; have X_ := Aside0.mk (blk_below HH.out b_); have Y_ := Aside0.mk (below_then HBB.out HBB.out.size b_); clear b_ d_ HH HBB k0 k1 k2 k3 k4 k5 k6 k7 k8; have HH := X_; have HBB := Y_; clear X_ Y_; obtain ⟨k0, k1, k2, k3, k4, k5, k6, k7, k8⟩ := CELLS.out wn HH.out))
        go_ret
        refine ⟨?_, HBB.out⟩
        have e_ : inodeGood a0 = false := by rw [HIN.out, decide_eq_false HZ.out]; unfold inodeOk; rw [R0.out, R1.out]; rfl
        rw [← H.out, e_]; rfl
      | true =>
        obtain ⟨b2, hb2⟩ : ∃ b, b = rng x2 0 4095 := ⟨_, rfl⟩
        have R2 := Aside0.mk hb2.symm
        have W2 := Aside0.mk (impl_Inode_right.win x2 0 4095 b2 R2.out)
        clear hb2
        cases b2 with
        | false =>
          go_enter Try.func52, Try.ntmps52
          go_wp2_with (first | ((with_reducible refine gate_dst (N := 1) rfl ?_); refine hx_box rfl 1 rfl 42 (.tmp 0) rfl Sz0 (.agg (nums .i64 a0).toArray) (nums .i64 a0).toArray rfl rfl ?_; intro wn s1 L1 Sz1 b1 g_; have HH := Aside0.mk g_; have HBB := Aside0.mk (below_then HB0.out HB0.out.size b1); clear g_ HB0 b1; obtain ⟨k0, k1, k2, k3, k4, k5, k6, k7, k8⟩ := CELLS.out wn HH.out) | ((with_reducible refine gate_dst (N := 4) rfl ?_); refine hx_load rfl 42 (.tmp 1) rfl s0 24 rfl Try.underlying42 rfl (by kernel_rfl) HH.out (nums_size _ _ _ N_.out) ?_) | ((with_reducible refine gate_dst (N := 6) rfl ?_); refine wpList_eqw rfl (.tmp 4) (.tmp 5) _ rfl eqw42 (by decide) (by kernel_rfl) a0 zz rfl (by rw [ZZ.out]; rfl) N_.out NZ.out ?_; rw [BE.out]) | (go_at_call 71; (first | (with_reducible refine (impl_within.calls x0 1 3 true _ W0.out).mono ?_) | (with_reducible refine (impl_within.calls x1 1 1000 true _ W1.out).mono ?_) | (with_reducible refine (impl_within.calls x2 0 4095 false _ W2.out).mono ?_)); rintro e_ wn ⟨rfl, d_⟩; have b_ := kept_drawn d_; have X_ := Aside0.mk (blk_below HH.out b_); have Y_ := Aside0.mk (below_then HBB.out HBB.out.size b_); clear b_ d_ HH HBB k0 k1 k2 k3 k4 k5 k6 k7 k8; have HH := X_; have HBB := Y_; clear X_ Y_; obtain ⟨k0, k1, k2, k3, k4, k5, k6, k7, k8⟩ := CELLS.out wn HH.out))
          go_ret
          refine ⟨?_, HBB.out⟩
          have e_ : inodeGood a0 = false := by rw [HIN.out, decide_eq_false HZ.out]; unfold inodeOk; rw [R0.out, R1.out, R2.out]; rfl
          rw [← H.out, e_]; rfl
        | true =>
          obtain ⟨b3, hb3⟩ : ∃ b, b = rng x3 0 65535 := ⟨_, rfl⟩
          have R3 := Aside0.mk hb3.symm
          have W3 := Aside0.mk (impl_Inode_right.win x3 0 65535 b3 R3.out)
          clear hb3
          cases b3 with
          | false =>
            go_enter Try.func52, Try.ntmps52
            go_wp2_with (first | ((with_reducible refine gate_dst (N := 1) rfl ?_); refine hx_box rfl 1 rfl 42 (.tmp 0) rfl Sz0 (.agg (nums .i64 a0).toArray) (nums .i64 a0).toArray rfl rfl ?_; intro wn s1 L1 Sz1 b1 g_; have HH := Aside0.mk g_; have HBB := Aside0.mk (below_then HB0.out HB0.out.size b1); clear g_ HB0 b1; obtain ⟨k0, k1, k2, k3, k4, k5, k6, k7, k8⟩ := CELLS.out wn HH.out) | ((with_reducible refine gate_dst (N := 4) rfl ?_); refine hx_load rfl 42 (.tmp 1) rfl s0 24 rfl Try.underlying42 rfl (by kernel_rfl) HH.out (nums_size _ _ _ N_.out) ?_) | ((with_reducible refine gate_dst (N := 6) rfl ?_); refine wpList_eqw rfl (.tmp 4) (.tmp 5) _ rfl eqw42 (by decide) (by kernel_rfl) a0 zz rfl (by rw [ZZ.out]; rfl) N_.out NZ.out ?_; rw [BE.out]) | (go_at_call 71; (first | (with_reducible refine (impl_within.calls x0 1 3 true _ W0.out).mono ?_) | (with_reducible refine (impl_within.calls x1 1 1000 true _ W1.out).mono ?_) | (with_reducible refine (impl_within.calls x2 0 4095 true _ W2.out).mono ?_) | (with_reducible refine (impl_within.calls x3 0 65535 false _ W3.out).mono ?_)); rintro e_ wn ⟨rfl, d_⟩; have b_ := kept_drawn d_; have X_ := Aside0.mk (blk_below HH.out b_); have Y_ := Aside0.mk (below_then HBB.out HBB.out.size b_); clear b_ d_ HH HBB k0 k1 k2 k3 k4 k5 k6 k7 k8; have HH := X_; have HBB := Y_; clear X_ Y_; obtain ⟨k0, k1, k2, k3, k4, k5, k6, k7, k8⟩ := CELLS.out wn HH.out))
            go_ret
            refine ⟨?_, HBB.out⟩
            have e_ : inodeGood a0 = false := by rw [HIN.out, decide_eq_false HZ.out]; unfold inodeOk; rw [R0.out, R1.out, R2.out, R3.out]; rfl
            rw [← H.out, e_]; rfl
          | true =>
            obtain ⟨b4, hb4⟩ : ∃ b, b = rng x4 0 65535 := ⟨_, rfl⟩
            have R4 := Aside0.mk hb4.symm
            have W4 := Aside0.mk (impl_Inode_right.win x4 0 65535 b4 R4.out)
            clear hb4
            cases b4 with
            | false =>
              go_enter Try.func52, Try.ntmps52
              go_wp2_with (first | ((with_reducible refine gate_dst (N := 1) rfl ?_); refine hx_box rfl 1 rfl 42 (.tmp 0) rfl Sz0 (.agg (nums .i64 a0).toArray) (nums .i64 a0).toArray rfl rfl ?_; intro wn s1 L1 Sz1 b1 g_; have HH := Aside0.mk g_; have HBB := Aside0.mk (below_then HB0.out HB0.out.size b1); clear g_ HB0 b1; obtain ⟨k0, k1, k2, k3, k4, k5, k6, k7, k8⟩ := CELLS.out wn HH.out) | ((with_reducible refine gate_dst (N := 4) rfl ?_); refine hx_load rfl 42 (.tmp 1) rfl s0 24 rfl Try.underlying42 rfl (by kernel_rfl) HH.out (nums_size _ _ _ N_.out) ?_) | ((with_reducible refine gate_dst (N := 6) rfl ?_); refine wpList_eqw rfl (.tmp 4) (.tmp 5) _ rfl eqw42 (by decide) (by kernel_rfl) a0 zz rfl (by rw [ZZ.out]; rfl) N_.out NZ.out ?_; rw [BE.out]) | (go_at_call 71; (first | (with_reducible refine (impl_within.calls x0 1 3 true _ W0.out).mono ?_) | (with_reducible refine (impl_within.calls x1 1 1000 true _ W1.out).mono ?_) | (with_reducible refine (impl_within.calls x2 0 4095 true _ W2.out).mono ?_) | (with_reducible refine (impl_within.calls x3 0 65535 true _ W3.out).mono ?_) | (with_reducible refine (impl_within.calls x4 0 65535 false _ W4.out).mono ?_)); rintro e_ wn ⟨rfl, d_⟩; have b_ := kept_drawn d_; have X_ := Aside0.mk (blk_below HH.out b_); have Y_ := Aside0.mk (below_then HBB.out HBB.out.size b_); clear b_ d_ HH HBB k0 k1 k2 k3 k4 k5 k6 k7 k8; have HH := X_; have HBB := Y_; clear X_ Y_; obtain ⟨k0, k1, k2, k3, k4, k5, k6, k7, k8⟩ := CELLS.out wn HH.out))
              go_ret
              refine ⟨?_, HBB.out⟩
              have e_ : inodeGood a0 = false := by rw [HIN.out, decide_eq_false HZ.out]; unfold inodeOk; rw [R0.out, R1.out, R2.out, R3.out, R4.out]; rfl
              rw [← H.out, e_]; rfl
            | true =>
              have R5 := Aside0.mk hpo
              clear hpo
              cases pb with
              | false =>
                go_enter Try.func52, Try.ntmps52
                go_wp2_with (first | ((with_reducible refine gate_dst (N := 1) rfl ?_); refine hx_box rfl 1 rfl 42 (.tmp 0) rfl Sz0 (.agg (nums .i64 a0).toArray) (nums .i64 a0).toArray rfl rfl ?_; intro wn s1 L1 Sz1 b1 g_; have HH := Aside0.mk g_; have HBB := Aside0.mk (below_then HB0.out HB0.out.size b1); clear g_ HB0 b1; obtain ⟨k0, k1, k2, k3, k4, k5, k6, k7, k8⟩ := CELLS.out wn HH.out) | ((with_reducible refine gate_dst (N := 4) rfl ?_); refine hx_load rfl 42 (.tmp 1) rfl s0 24 rfl Try.underlying42 rfl (by kernel_rfl) HH.out (nums_size _ _ _ N_.out) ?_) | ((with_reducible refine gate_dst (N := 6) rfl ?_); refine wpList_eqw rfl (.tmp 4) (.tmp 5) _ rfl eqw42 (by decide) (by kernel_rfl) a0 zz rfl (by rw [ZZ.out]; rfl) N_.out NZ.out ?_; rw [BE.out]) | (go_at_call 71; (first | (with_reducible refine (impl_within.calls x0 1 3 true _ W0.out).mono ?_) | (with_reducible refine (impl_within.calls x1 1 1000 true _ W1.out).mono ?_) | (with_reducible refine (impl_within.calls x2 0 4095 true _ W2.out).mono ?_) | (with_reducible refine (impl_within.calls x3 0 65535 true _ W3.out).mono ?_) | (with_reducible refine (impl_within.calls x4 0 65535 true _ W4.out).mono ?_)); rintro e_ wn ⟨rfl, d_⟩; have b_ := kept_drawn d_; have X_ := Aside0.mk (blk_below HH.out b_); have Y_ := Aside0.mk (below_then HBB.out HBB.out.size b_); clear b_ d_ HH HBB k0 k1 k2 k3 k4 k5 k6 k7 k8; have HH := X_; have HBB := Y_; clear X_ Y_; obtain ⟨k0, k1, k2, k3, k4, k5, k6, k7, k8⟩ := CELLS.out wn HH.out))
                go_ret
                refine ⟨?_, HBB.out⟩
                have e_ : inodeGood a0 = false := by rw [HIN.out, decide_eq_false HZ.out]; unfold inodeOk; rw [R0.out, R1.out, R2.out, R3.out, R4.out, R5.out]; rfl
                rw [← H.out, e_]; rfl
              | true =>
                obtain ⟨b6, hb6⟩ : ∃ b, b = rng x6 1 1099511627776 := ⟨_, rfl⟩
                have R6 := Aside0.mk hb6.symm
                have W6 := Aside0.mk (impl_Inode_right.win x6 1 1099511627776 b6 R6.out)
                clear hb6
                cases b6 with
                | false =>
                  go_enter Try.func52, Try.ntmps52
                  go_wp2_with (first | ((with_reducible refine gate_dst (N := 1) rfl ?_); refine hx_box rfl 1 rfl 42 (.tmp 0) rfl Sz0 (.agg (nums .i64 a0).toArray) (nums .i64 a0).toArray rfl rfl ?_; intro wn s1 L1 Sz1 b1 g_; have HH := Aside0.mk g_; have HBB := Aside0.mk (below_then HB0.out HB0.out.size b1); clear g_ HB0 b1; obtain ⟨k0, k1, k2, k3, k4, k5, k6, k7, k8⟩ := CELLS.out wn HH.out) | ((with_reducible refine gate_dst (N := 4) rfl ?_); refine hx_load rfl 42 (.tmp 1) rfl s0 24 rfl Try.underlying42 rfl (by kernel_rfl) HH.out (nums_size _ _ _ N_.out) ?_) | ((with_reducible refine gate_dst (N := 6) rfl ?_); refine wpList_eqw rfl (.tmp 4) (.tmp 5) _ rfl eqw42 (by decide) (by kernel_rfl) a0 zz rfl (by rw [ZZ.out]; rfl) N_.out NZ.out ?_; rw [BE.out]) | (go_at_call 71; (first | (with_reducible refine (impl_within.calls x0 1 3 true _ W0.out).mono ?_) | (with_reducible refine (impl_within.calls x1 1 1000 true _ W1.out).mono ?_) | (with_reducible refine (impl_within.calls x2 0 4095 true _ W2.out).mono ?_) | (with_reducible refine (impl_within.calls x3 0 65535 true _ W3.out).mono ?_) | (with_reducible refine (impl_within.calls x4 0 65535 true _ W4.out).mono ?_) | (with_reducible refine (impl_within.calls x6 1 1099511627776 false _ W6.out).mono ?_)); rintro e_ wn ⟨rfl, d_⟩; have b_ := kept_drawn d_; have X_ := Aside0.mk (blk_below HH.out b_); have Y_ := Aside0.mk (below_then HBB.out HBB.out.size b_); clear b_ d_ HH HBB k0 k1 k2 k3 k4 k5 k6 k7 k8; have HH := X_; have HBB := Y_; clear X_ Y_; obtain ⟨k0, k1, k2, k3, k4, k5, k6, k7, k8⟩ := CELLS.out wn HH.out))
                  go_ret
                  refine ⟨?_, HBB.out⟩
                  have e_ : inodeGood a0 = false := by rw [HIN.out, decide_eq_false HZ.out]; unfold inodeOk; rw [R0.out, R1.out, R2.out, R3.out, R4.out, R5.out, R6.out]; rfl
                  rw [← H.out, e_]; rfl
                | true =>
                  obtain ⟨b7, hb7⟩ : ∃ b, b = rng x7 1 1099511627776 := ⟨_, rfl⟩
                  have R7 := Aside0.mk hb7.symm
                  have W7 := Aside0.mk (impl_Inode_right.win x7 1 1099511627776 b7 R7.out)
                  clear hb7
                  cases b7 with
                  | false =>
                    go_enter Try.func52, Try.ntmps52
                    go_wp2_with (first | ((with_reducible refine gate_dst (N := 1) rfl ?_); refine hx_box rfl 1 rfl 42 (.tmp 0) rfl Sz0 (.agg (nums .i64 a0).toArray) (nums .i64 a0).toArray rfl rfl ?_; intro wn s1 L1 Sz1 b1 g_; have HH := Aside0.mk g_; have HBB := Aside0.mk (below_then HB0.out HB0.out.size b1); clear g_ HB0 b1; obtain ⟨k0, k1, k2, k3, k4, k5, k6, k7, k8⟩ := CELLS.out wn HH.out) | ((with_reducible refine gate_dst (N := 4) rfl ?_); refine hx_load rfl 42 (.tmp 1) rfl s0 24 rfl Try.underlying42 rfl (by kernel_rfl) HH.out (nums_size _ _ _ N_.out) ?_) | ((with_reducible refine gate_dst (N := 6) rfl ?_); refine wpList_eqw rfl (.tmp 4) (.tmp 5) _ rfl eqw42 (by decide) (by kernel_rfl) a0 zz rfl (by rw [ZZ.out]; rfl) N_.out NZ.out ?_; rw [BE.out]) | (go_at_call 71; (first | (with_reducible refine (impl_within.calls x0 1 3 true _ W0.out).mono ?_) | (with_reducible refine (impl_within.calls x1 1 1000 true _ W1.out).mono ?_) | (with_reducible refine (impl_within.calls x2 0 4095 true _ W2.out).mono ?_) | (with_reducible refine (impl_within.calls x3 0 65535 true _ W3.out).mono ?_) | (with_reducible refine (impl_within.calls x4 0 65535 true _ W4.out).mono ?_) | (with_reducible refine (impl_within.calls x6 1 1099511627776 true _ W6.out).mono ?_) | (with_reducible refine (impl_within.calls x7 1 1099511627776 false _ W7.out).mono ?_)); rintro e_ wn ⟨rfl, d_⟩; have b_ := kept_drawn d_; have X_ := Aside0.mk (blk_below HH.out b_); have Y_ := Aside0.mk (below_then HBB.out HBB.out.size b_); clear b_ d_ HH HBB k0 k1 k2 k3 k4 k5 k6 k7 k8; have HH := X_; have HBB := Y_; clear X_ Y_; obtain ⟨k0, k1, k2, k3, k4, k5, k6, k7, k8⟩ := CELLS.out wn HH.out))
                    go_ret
                    refine ⟨?_, HBB.out⟩
                    have e_ : inodeGood a0 = false := by rw [HIN.out, decide_eq_false HZ.out]; unfold inodeOk; rw [R0.out, R1.out, R2.out, R3.out, R4.out, R5.out, R6.out, R7.out]; rfl
                    rw [← H.out, e_]; rfl
                  | true =>
                    obtain ⟨b8, hb8⟩ : ∃ b, b = rng x8 1 1099511627776 := ⟨_, rfl⟩
                    have R8 := Aside0.mk hb8.symm
                    have W8 := Aside0.mk (impl_Inode_right.win x8 1 1099511627776 b8 R8.out)
                    clear hb8
                    cases b8 with
                    | false =>
                      go_enter Try.func52, Try.ntmps52
                      go_wp2_with (first | ((with_reducible refine gate_dst (N := 1) rfl ?_); refine hx_box rfl 1 rfl 42 (.tmp 0) rfl Sz0 (.agg (nums .i64 a0).toArray) (nums .i64 a0).toArray rfl rfl ?_; intro wn s1 L1 Sz1 b1 g_; have HH := Aside0.mk g_; have HBB := Aside0.mk (below_then HB0.out HB0.out.size b1); clear g_ HB0 b1; obtain ⟨k0, k1, k2, k3, k4, k5, k6, k7, k8⟩ := CELLS.out wn HH.out) | ((with_reducible refine gate_dst (N := 4) rfl ?_); refine hx_load rfl 42 (.tmp 1) rfl s0 24 rfl Try.underlying42 rfl (by kernel_rfl) HH.out (nums_size _ _ _ N_.out) ?_) | ((with_reducible refine gate_dst (N := 6) rfl ?_); refine wpList_eqw rfl (.tmp 4) (.tmp 5) _ rfl eqw42 (by decide) (by kernel_rfl) a0 zz rfl (by rw [ZZ.out]; rfl) N_.out NZ.out ?_; rw [BE.out]) | (go_at_call 71; (first | (with_reducible refine (impl_within.calls x8 1 1099511627776 false _ W8.out).mono ?_)); rintro e_ wn ⟨rfl, d_⟩; have b_ := kept_drawn d_; have X_ := Aside0.mk (blk_below HH.out b_); have Y_ := Aside0.mk (below_then HBB.out HBB.out.size b_); clear b_ d_ HH HBB k0 k1 k2 k3 k4 k5 k6 k7 k8; have HH := X_; have HBB := Y_; clear X_ Y_; obtain ⟨k0, k1, k2, k3, k4, k5, k6, k7, k8⟩ := CELLS.out wn HH.out; obtain ⟨q0, q1, q2, q3, q4, q5, q6, q7, q8, q9, q10, q11, q12, q13, q14⟩ := CELLR.out wn HH.out) | (go_at_call 71; (first | (with_reducible refine (impl_within.calls x0 1 3 true _ W0.out).mono ?_) | (with_reducible refine (impl_within.calls x1 1 1000 true _ W1.out).mono ?_) | (with_reducible refine (impl_within.calls x2 0 4095 true _ W2.out).mono ?_) | (with_reducible refine (impl_within.calls x3 0 65535 true _ W3.out).mono ?_) | (with_reducible refine (impl_within.calls x4 0 65535 true _ W4.out).mono ?_) | (with_reducible refine (impl_within.calls x6 1 1099511627776 true _ W6.out).mono ?_) | (with_reducible refine (impl_within.calls x7 1 1099511627776 true _ W7.out).mono ?_)); rintro e_ wn ⟨rfl, d_⟩; have b_ := kept_drawn d_; have X_ := Aside0.mk (blk_below HH.out b_); have Y_ := Aside0.mk (below_then HBB.out HBB.out.size b_); clear b_ d_ HH HBB k0 k1 k2 k3 k4 k5 k6 k7 k8; have HH := X_; have HBB := Y_; clear X_ Y_; obtain ⟨k0, k1, k2, k3, k4, k5, k6, k7, k8⟩ := CELLS.out wn HH.out))
                      go_ret
                      refine ⟨?_, HBB.out⟩
                      have e_ : inodeGood a0 = false := by rw [HIN.out, decide_eq_false HZ.out]; unfold inodeOk; rw [R0.out, R1.out, R2.out, R3.out, R4.out, R5.out, R6.out, R7.out, R8.out]; rfl
                      rw [← H.out, e_]; rfl
                    | true =>
                      obtain ⟨b9, hb9⟩ : ∃ b, b = rootGood xr := ⟨_, rfl⟩
                      have R9 := Aside0.mk hb9.symm
                      have WR := Aside0.mk (show impl_Root_right.f xr = some b9 by rw [← R9.out]; rfl)
                      clear hb9
                      cases b9 with
                      | false =>
                        have RC : Aside0 (∀ W : World, Calls Try.prog 44 #[.agg #[.int .i64 y0, .int .i64 y1, .int .i64 y2, .int .i64 y3, .int .i64 y4, .int .i64 y5, .int .i64 y6, .int .i64 y7, .int .i64 y8, .int .i64 y9, .int .i64 y10, .int .i64 y11, .int .i64 y12, .int .i64 y13, .int .i64 y14]] W fun e w' => e = .returned (.bool false) ∧ Below W.heap.size W w') := ⟨fun W => by have h_ := impl_Root_right.calls xr NR.out false W WR.out; rw [XY.out] at h_; exact h_⟩
                        go_enter Try.func52, Try.ntmps52
                        go_wp2_with (first | ((with_reducible refine gate_dst (N := 1) rfl ?_); refine hx_box rfl 1 rfl 42 (.tmp 0) rfl Sz0 (.agg (nums .i64 a0).toArray) (nums .i64 a0).toArray rfl rfl ?_; intro wn s1 L1 Sz1 b1 g_; have HH := Aside0.mk g_; have HBB := Aside0.mk (below_then HB0.out HB0.out.size b1); clear g_ HB0 b1; obtain ⟨k0, k1, k2, k3, k4, k5, k6, k7, k8⟩ := CELLS.out wn HH.out) | ((with_reducible refine gate_dst (N := 4) rfl ?_); refine hx_load rfl 42 (.tmp 1) rfl s0 24 rfl Try.underlying42 rfl (by kernel_rfl) HH.out (nums_size _ _ _ N_.out) ?_) | ((with_reducible refine gate_dst (N := 6) rfl ?_); refine wpList_eqw rfl (.tmp 4) (.tmp 5) _ rfl eqw42 (by decide) (by kernel_rfl) a0 zz rfl (by rw [ZZ.out]; rfl) N_.out NZ.out ?_; rw [BE.out]) | (go_at_call 71; (first | (with_reducible refine (impl_within.calls x8 1 1099511627776 true _ W8.out).mono ?_)); rintro e_ wn ⟨rfl, d_⟩; have b_ := kept_drawn d_; have X_ := Aside0.mk (blk_below HH.out b_); have Y_ := Aside0.mk (below_then HBB.out HBB.out.size b_); clear b_ d_ HH HBB k0 k1 k2 k3 k4 k5 k6 k7 k8; have HH := X_; have HBB := Y_; clear X_ Y_; obtain ⟨k0, k1, k2, k3, k4, k5, k6, k7, k8⟩ := CELLS.out wn HH.out; obtain ⟨q0, q1, q2, q3, q4, q5, q6, q7, q8, q9, q10, q11, q12, q13, q14⟩ := CELLR.out wn HH.out) | (go_at_call 71; (first | (with_reducible refine (impl_within.calls x0 1 3 true _ W0.out).mono ?_) | (with_reducible refine (impl_within.calls x1 1 1000 true _ W1.out).mono ?_) | (with_reducible refine (impl_within.calls x2 0 4095 true _ W2.out).mono ?_) | (with_reducible refine (impl_within.calls x3 0 65535 true _ W3.out).mono ?_) | (with_reducible refine (impl_within.calls x4 0 65535 true _ W4.out).mono ?_) | (with_reducible refine (impl_within.calls x6 1 1099511627776 true _ W6.out).mono ?_) | (with_reducible refine (impl_within.calls x7 1 1099511627776 true _ W7.out).mono ?_)); rintro e_ wn ⟨rfl, d_⟩; have b_ := kept_drawn d_; have X_ := Aside0.mk (blk_below HH.out b_); have Y_ := Aside0.mk (below_then HBB.out HBB.out.size b_); clear b_ d_ HH HBB k0 k1 k2 k3 k4 k5 k6 k7 k8; have HH := X_; have HBB := Y_; clear X_ Y_; obtain ⟨k0, k1, k2, k3, k4, k5, k6, k7, k8⟩ := CELLS.out wn HH.out) | (go_at_call 44; (first | (with_reducible refine (RC.out _).mono ?_)); rintro e_ wn ⟨rfl, d_⟩; have b_ := d_; have X_ := Aside0.mk (blk_below HH.out b_); have Y_ := Aside0.mk (below_then HBB.out HBB.out.size b_); clear b_ d_ HH HBB k0 k1 k2 k3 k4 k5 k6 k7 k8; have HH := X_; have HBB := Y_; clear X_ Y_; obtain ⟨k0, k1, k2, k3, k4, k5, k6, k7, k8⟩ := CELLS.out wn HH.out))
                        go_ret
                        refine ⟨?_, HBB.out⟩
                        have e_ : inodeGood a0 = false := by rw [HIN.out, decide_eq_false HZ.out]; unfold inodeOk; rw [R0.out, R1.out, R2.out, R3.out, R4.out, R5.out, R6.out, R7.out, R8.out, R9.out]; rfl
                        rw [← H.out, e_]; rfl
                      | true =>
                        have RC : Aside0 (∀ W : World, Calls Try.prog 44 #[.agg #[.int .i64 y0, .int .i64 y1, .int .i64 y2, .int .i64 y3, .int .i64 y4, .int .i64 y5, .int .i64 y6, .int .i64 y7, .int .i64 y8, .int .i64 y9, .int .i64 y10, .int .i64 y11, .int .i64 y12, .int .i64 y13, .int .i64 y14]] W fun e w' => e = .returned (.bool true) ∧ Below W.heap.size W w') := ⟨fun W => by have h_ := impl_Root_right.calls xr NR.out true W WR.out; rw [XY.out] at h_; exact h_⟩
                        go_enter Try.func52, Try.ntmps52
                        go_wp2_with (first | ((with_reducible refine gate_dst (N := 1) rfl ?_); refine hx_box rfl 1 rfl 42 (.tmp 0) rfl Sz0 (.agg (nums .i64 a0).toArray) (nums .i64 a0).toArray rfl rfl ?_; intro wn s1 L1 Sz1 b1 g_; have HH := Aside0.mk g_; have HBB := Aside0.mk (below_then HB0.out HB0.out.size b1); clear g_ HB0 b1; obtain ⟨k0, k1, k2, k3, k4, k5, k6, k7, k8⟩ := CELLS.out wn HH.out) | ((with_reducible refine gate_dst (N := 4) rfl ?_); refine hx_load rfl 42 (.tmp 1) rfl s0 24 rfl Try.underlying42 rfl (by kernel_rfl) HH.out (nums_size _ _ _ N_.out) ?_) | ((with_reducible refine gate_dst (N := 6) rfl ?_); refine wpList_eqw rfl (.tmp 4) (.tmp 5) _ rfl eqw42 (by decide) (by kernel_rfl) a0 zz rfl (by rw [ZZ.out]; rfl) N_.out NZ.out ?_; rw [BE.out]) | (go_at_call 71; (first | (with_reducible refine (impl_within.calls x8 1 1099511627776 true _ W8.out).mono ?_)); rintro e_ wn ⟨rfl, d_⟩; have b_ := kept_drawn d_; have X_ := Aside0.mk (blk_below HH.out b_); have Y_ := Aside0.mk (below_then HBB.out HBB.out.size b_); clear b_ d_ HH HBB k0 k1 k2 k3 k4 k5 k6 k7 k8; have HH := X_; have HBB := Y_; clear X_ Y_; obtain ⟨k0, k1, k2, k3, k4, k5, k6, k7, k8⟩ := CELLS.out wn HH.out; obtain ⟨q0, q1, q2, q3, q4, q5, q6, q7, q8, q9, q10, q11, q12, q13, q14⟩ := CELLR.out wn HH.out) | (go_at_call 71; (first | (with_reducible refine (impl_within.calls x0 1 3 true _ W0.out).mono ?_) | (with_reducible refine (impl_within.calls x1 1 1000 true _ W1.out).mono ?_) | (with_reducible refine (impl_within.calls x2 0 4095 true _ W2.out).mono ?_) | (with_reducible refine (impl_within.calls x3 0 65535 true _ W3.out).mono ?_) | (with_reducible refine (impl_within.calls x4 0 65535 true _ W4.out).mono ?_) | (with_reducible refine (impl_within.calls x6 1 1099511627776 true _ W6.out).mono ?_) | (with_reducible refine (impl_within.calls x7 1 1099511627776 true _ W7.out).mono ?_)); rintro e_ wn ⟨rfl, d_⟩; have b_ := kept_drawn d_; have X_ := Aside0.mk (blk_below HH.out b_); have Y_ := Aside0.mk (below_then HBB.out HBB.out.size b_); clear b_ d_ HH HBB k0 k1 k2 k3 k4 k5 k6 k7 k8; have HH := X_; have HBB := Y_; clear X_ Y_; obtain ⟨k0, k1, k2, k3, k4, k5, k6, k7, k8⟩ := CELLS.out wn HH.out) | (go_at_call 44; (first | (with_reducible refine (RC.out _).mono ?_)); rintro e_ wn ⟨rfl, d_⟩; have b_ := d_; have X_ := Aside0.mk (blk_below HH.out b_); have Y_ := Aside0.mk (below_then HBB.out HBB.out.size b_); clear b_ d_ HH HBB k0 k1 k2 k3 k4 k5 k6 k7 k8; have HH := X_; have HBB := Y_; clear X_ Y_; obtain ⟨k0, k1, k2, k3, k4, k5, k6, k7, k8⟩ := CELLS.out wn HH.out))
                        go_ret
                        refine ⟨?_, HBB.out⟩
                        have e_ : inodeGood a0 = true := by rw [HIN.out, decide_eq_false HZ.out]; unfold inodeOk; rw [R0.out, R1.out, R2.out, R3.out, R4.out, R5.out, R6.out, R7.out, R8.out, R9.out]; rfl
                        rw [← H.out, e_]; rfl

end Go.Proofs.Ytkghgjehjchajaa.PFnTable
