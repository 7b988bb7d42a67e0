-- Written by a program of this session (patch_print.py over the kit print)
import Derived.Test.YtkghgjehjchajaaPFnExactEncodeTablex0
import Derived.Test.YtkghgjehjchajaaPFnExactEncodeTablex8
import Derived.Test.YtkghgjehjchajaaPFnExactEncodeTablex9
namespace Go.Proofs.Ytkghgjehjchajaa.PFnExactEncodeTable
open Go.RowKit Go.Proofs.YtkghgjehjchajaaW.PrintWords Go.Proofs.YtkghgjehjchajaaW.PrintLast Go.Proofs.YtkghgjehjchajaaW.PrintMore
attribute [local go_sem] max2_int min2_int max_two min_two max_three min_three max_four min_four   -- for this text's walks alone
set_option linter.unusedVariables false
set_option linter.unusedSimpArgs false

open Go.Proofs.YtkghgjehjchajaaW Go.Proofs.YtkghgjehjchajaaW.PrintHand Go.Proofs.YtkghgjehjchajaaW.PrintHx
/-! ### impl_Root_right: function 44 -/
def impl_Root_right.f (a0 : List Int) : Option Bool := some (rootGood a0)
theorem impl_Root_right.within (a b c : Int) : impl_within.f a b c = some (decide (b ≤ a ∧ a ≤ c)) := by
  unfold impl_within.f
  by_cases h : b ≤ a <;> simp [h]
theorem impl_Root_right.ptr (p : Int) : impl_isPointer.f p 2048 = some (ptrOk p) := by
  unfold impl_isPointer.f ptrOk
  by_cases h : p = 0
  · simp [h]
  · rw [if_neg h, impl_Root_right.within, Option.bind_some, show wrap64 (2048 - 1) = 2047 by unfold wrap64; omega]
    congr 1
    rw [decide_eq_false h, Bool.false_or, ← Bool.decide_and]
    apply decide_eq_decide.2
    omega
theorem impl_Root_right.count (s : Int) (h0 : 0 ≤ s) (h1 : s ≤ 262144) : impl_count.f s = some ((s + 511) / 512) := by
  unfold impl_count.f
  have e1 : wrap64 (s + 512) = s + 512 := by unfold wrap64; omega
  have e2 : wrap64 (s + 512 - 1) = s + 511 := by unfold wrap64; omega
  rw [e1, e2, Int.tdiv_eq_ediv_of_nonneg (by omega)]
  congr 1
  unfold wrap64
  omega
set_option maxHeartbeats 8000000 in
set_option maxRecDepth 100000 in
theorem impl_Root_right.calls (a0 : List Int) (n0 : a0.length = 15) (r : Bool) (w : World) (h : impl_Root_right.f a0 = some r) :
    Calls Try.prog 44 #[.agg (nums .i64 a0).toArray] w fun e w' => e = .returned (.bool r) ∧ Below w.heap.size w w' := by
  have H := Aside0.mk (Option.some.inj h)
  have N_ := Aside0.mk n0
  clear n0 h
  obtain ⟨s, hs⟩ : ∃ s, s = a0.getD 0 0 := ⟨_, rfl⟩
  have HS := Aside0.mk hs
  obtain ⟨x13, hx13⟩ : ∃ x, x = a0.getD 13 0 := ⟨_, rfl⟩
  have HX13 := Aside0.mk hx13
  obtain ⟨x14, hx14⟩ : ∃ x, x = a0.getD 14 0 := ⟨_, rfl⟩
  have HX14 := Aside0.mk hx14
  clear hs hx13 hx14
  obtain ⟨xs, hxs⟩ : ∃ xs, xs = seg a0 1 14 := ⟨_, rfl⟩
  have HP := Aside0.mk (show impl_Root_pointers.f a0 = some xs by rw [hxs]; exact if_pos N_.out)
  have HXL := Aside0.mk (show xs.length = 14 by rw [hxs]; exact part_len (n := 15) N_.out (by decide))
  have HXS := Aside0.mk hxs
  clear hxs
  have HB0 : Aside0 (Below w.heap.size w w) := ⟨Below.refl _ _⟩
  obtain ⟨s0, Sz0⟩ : ∃ s0, Aside0 (w.heap.size = s0) := ⟨_, ⟨rfl⟩⟩
  have hw0 : w.heap.size ≤ s0 := Nat.le_of_eq Sz0.out
  have hw1 : s0 ≤ w.heap.size := Nat.le_of_eq Sz0.out.symm
  by_cases c1 : 0 ≤ s ∧ s ≤ 262144
  case neg =>
    have HW := Aside0.mk ((impl_Root_right.within s 0 262144).trans (by rw [decide_eq_false c1]))
    have C1 := Aside0.mk c1
    clear c1
    go_enter Try.func44, Try.ntmps44
    go_wp2_with (first | ((with_reducible refine gate_dst (N := 1) rfl ?_); refine hx_box rfl 1 rfl 28 (.tmp 0) rfl Sz0 (.agg (nums .i64 a0).toArray) (nums .i64 a0).toArray rfl rfl ?_; intro w1 s1 L1 Sz1 b1 g_; have H0 := Aside0.mk g_; have HB1 := Aside0.mk (below_then HB0.out HB0.out.size b1); clear g_ HB0 b1; have c0_ := row_cell H0.out 0 (lt_len (n := 15) N_.out (by decide)); rw [← HS.out] at c0_) | (go_at_call 71; refine (impl_within.calls s 0 262144 false _ HW.out).mono ?_; rintro e_ w_ ⟨rfl, ⟨nd, rfl⟩⟩))
    go_ret
    refine ⟨?_, pw_below_drewN HB1.out _⟩
    have e_ : rootGood a0 = false := by
      by_cases c2 : a0.getD 0 0 < 0
      · exact rootGood_low c2
      · exact rootGood_high (by have := C1.out; rw [HS.out] at this; omega)
    rw [← H.out, e_]; rfl
  have HW := Aside0.mk ((impl_Root_right.within s 0 262144).trans (by rw [decide_eq_true c1]))
  have W1 : 0 ≤ s := c1.1
  have W2 : s ≤ 262144 := c1.2
  clear c1
  obtain ⟨bb, hbb⟩ : ∃ b, b = (s + 511) / 512 := ⟨_, rfl⟩
  have HC := Aside0.mk (show impl_count.f s = some bb by rw [hbb]; exact impl_Root_right.count s W1 W2)
  have HBB := Aside0.mk hbb
  have hbb1 : 0 ≤ bb := by omega
  have hbb2 : bb ≤ 1000 := by omega
  clear hbb
  go_enter Try.func44, Try.ntmps44
  go_wp2_with (first | ((with_reducible refine gate_dst (N := 1) rfl ?_); refine hx_box rfl 1 rfl 28 (.tmp 0) rfl Sz0 (.agg (nums .i64 a0).toArray) (nums .i64 a0).toArray rfl rfl ?_; intro w1 s1 L1 Sz1 b1 g_; have H0 := Aside0.mk g_; have HB1 := Aside0.mk (below_then HB0.out HB0.out.size b1); clear g_ HB0 b1; have c0_ := row_cell H0.out 0 (lt_len (n := 15) N_.out (by decide)); rw [← HS.out] at c0_) | (go_at_call 71; refine (impl_within.calls s 0 262144 true _ HW.out).mono ?_; rintro e_ w_ ⟨rfl, ⟨nd, rfl⟩⟩) | ((with_reducible refine gate_dst (N := 12) rfl ?_); refine hx_load rfl 28 (.tmp 1) rfl s0 15 rfl Try.underlying28 rfl (by kernel_rfl) (blk_drewN H0.out _) (nums_size _ _ _ N_.out) ?_) | ((with_reducible refine gate_dst (N := 13) rfl ?_); refine goesL_ (some 13) rfl rfl Try.func72 (by kernel_rfl) rfl #[.agg (nums .i64 a0).toArray] rfl (by (try simp only [List.map_toArray, List.map_cons, List.map_nil]); first | done | rfl) ?_; refine (impl_Root_pointers.calls a0 N_.out xs _ HP.out).mono ?_; rintro e_ w3 ⟨v0_, rfl, R_, b_⟩; obtain ⟨A21, c21, rfl⟩ := Kd.R_slice R_; refine ⟨_, rfl, ?_⟩; have O := Aside0.mk R_; have HB := Aside0.mk (below_then (pw_below_drewN HB1.out _) (pw_below_drewN HB1.out _).size b_); have H3 := Aside0.mk (blk_below (blk_drewN H0.out _) b_); clear R_ b_ HB1 H0 c0_))
  (try simp only [Act.put, List.setIfInBounds_toArray, List.set_cons_succ, List.set_cons_zero])
  go_loopw [15] (fun v15 wr => ∃ j : Nat, v15 = .int .i64 (j : Int) ∧ Aside0 (j ≤ 14) ∧ Aside0 (∀ i, i < j → ptrOk ((seg a0 1 14).getD i 0) = true) ∧ Drawn0 w3 wr) (fun v15 _ => 14 - (intOf v15).toNat)
  case atStart => exact ⟨0, rfl, ⟨by omega⟩, ⟨fun i hi => absurd hi (Nat.not_lt_zero i)⟩, Drawn0.refl _⟩
  case round =>
    obtain ⟨j, rfl, hj, hall, ⟨m2, rfl⟩⟩ := hrel
    by_cases c9 : j < 14
    · have c9b0 : decide ((j : Int) < (xs.length : Int)) = true := decide_eq_true (by rw [HXL.out]; omega)
      have c9b1 : decide (j < xs.length) = true := decide_eq_true (by rw [HXL.out]; omega)
      have p112 : 0 ≤ (j : Int) := by omega
      have q112 : (j : Int) < (xs.length : Int) := by rw [HXL.out]; omega
      obtain ⟨ad112, e112, hx112⟩ := Kd.at_int (Kd.C_drewN (Kd.R_reads' O.out).2.2 m2) (j : Int) p112 q112
      cases e112
      rw [Int.toNat_natCast] at hx112
      replace p112 := eq_true p112
      replace q112 := eq_true q112
      have q113 : (j < xs.length) = True := eq_true (by rw [HXL.out]; omega)
      obtain ⟨p, hp⟩ : ∃ p, p = rd xs (j : Int) := ⟨_, rfl⟩
      rw [← hp] at hx112
      have HPV := Aside0.mk (show p = (seg a0 1 14).getD j 0 by rw [hp, HXS.out, rd, Int.toNat_natCast])
      have C9 := Aside0.mk c9
      clear hp c9
      by_cases cq : ptrOk p = true
      · have HQ := Aside0.mk ((impl_Root_right.ptr p).trans (by rw [cq]))
        have CQ := Aside0.mk (show ptrOk ((seg a0 1 14).getD j 0) = true by rw [← HPV.out]; exact cq)
        clear cq
        go_wp2_with (first | (go_at_call 73; refine (impl_isPointer.calls p 2048 true _ HQ.out).mono ?_; rintro e_ w_ ⟨rfl, ⟨nd, rfl⟩⟩))
        go_roundw
        case rel =>
          refine ⟨j + 1, by rw [show wrap64 ((j : Int) + 1) = ((j + 1 : Nat) : Int) by (have := C9.out; unfold wrap64; omega)], ⟨by have := C9.out; omega⟩, ⟨fun i hi => ?_⟩, by repeat (first | exact Drawn0.refl _ | apply Drawn0.step)⟩
          by_cases hij : i = j
          · subst hij; exact CQ.out
          · exact hall.out i (by omega)
        case measure =>
          rw [show wrap64 ((j : Int) + 1) = ((j + 1 : Nat) : Int) by (have := C9.out; unfold wrap64; omega)]
          simp only [intOf, Int.toNat_natCast]
          have := C9.out
          omega
      · have cq2 : ptrOk p = false := by simpa using cq
        have HQ := Aside0.mk ((impl_Root_right.ptr p).trans (by rw [cq2]))
        have CQ := Aside0.mk cq2
        clear cq cq2
        go_wp2_with (first | (go_at_call 73; refine (impl_isPointer.calls p 2048 false _ HQ.out).mono ?_; rintro e_ w_ ⟨rfl, ⟨nd, rfl⟩⟩))
        go_ret
        refine ⟨?_, by first | exact pw_below_drewN HB.out _ | exact pw_below_drewN (pw_below_drewN HB.out _) _⟩
        have e_ : rootGood a0 = false := rootGood_bad j (by have := C9.out; omega) (by rw [ptrFits, ← HPV.out, CQ.out]; rfl)
        rw [← H.out, e_]; rfl
    · obtain rfl : j = 14 := by have := hj.out; omega
      have c9b0 : decide ((14 : Int) < (xs.length : Int)) = false := decide_eq_false (by rw [HXL.out]; decide)
      have c9b1 : decide (14 < xs.length) = false := decide_eq_false (by rw [HXL.out]; decide)
      have hp := hall
      have c0_ := row_cell (blk_drewN H3.out m2) 0 (lt_len (n := 15) N_.out (by decide))
      rw [← HS.out] at c0_
      clear hall hj
      go_wp2_with (first | (go_at_call 74; refine (impl_count.calls s bb _ HC.out).mono ?_; rintro e_ w_ ⟨rfl, ⟨nd, rfl⟩⟩) | ((with_reducible refine gate_dst (N := 27) rfl ?_); refine hx_loadp rfl 22 (.tmp 26) rfl s0 1 12 rfl Try.underlying22 rfl (by kernel_rfl) (blk_drewN H3.out _) (le_len (n := 15) N_.out (by decide)) ?_))
      (try simp only [Act.put, List.setIfInBounds_toArray, List.set_cons_succ, List.set_cons_zero])
      go_loopw [28] (fun v28 wr => ∃ j : Nat, v28 = .int .i64 (j : Int) ∧ Aside0 (j ≤ 12) ∧ Aside0 (∀ i, i < j → (seg a0 1 14).getD i 0 = 0 ∨ (i : Int) < (a0.getD 0 0 + 511) / 512) ∧ Drawn0 w3 wr) (fun v28 _ => 12 - (intOf v28).toNat)
      case atStart => exact ⟨0, rfl, ⟨by omega⟩, ⟨fun i hi => absurd hi (Nat.not_lt_zero i)⟩, by repeat (first | exact Drawn0.refl _ | apply Drawn0.step)⟩
      case round =>
        clear c0_ c9b0 c9b1 c9
        obtain ⟨j, rfl, hj, hall, ⟨m3, rfl⟩⟩ := hrel
        by_cases c9 : j < 12
        · have c9b0 : decide ((j : Int) < 12) = true := decide_eq_true (by omega)
          have c9b1 : decide (j < 12) = true := decide_eq_true c9
          obtain ⟨p, hp2⟩ : ∃ p, p = (seg a0 1 12).getD j 0 := ⟨_, rfl⟩
          have HPV := Aside0.mk hp2
          have HPV2 := Aside0.mk (show p = (seg a0 1 14).getD j 0 by rw [hp2, seg_getD _ _ _ _ c9, seg_getD _ _ _ _ (by omega)])
          have C9 := Aside0.mk c9
          clear hp2 c9
          by_cases cb : bb ≤ (j : Int)
          case neg =>
            have cb_ : decide (bb ≤ (j : Int)) = false := decide_eq_false cb
            have CB := Aside0.mk cb
            clear cb
            go_wp2_with (first | ((with_reducible refine gate_dst (N := 31) rfl ?_); refine hx_index rfl 22 3 12 (.tmp 27) (.tmp 28) rfl (seg a0 1 12) j _ rfl rfl Try.underlying22 Try.underlying3 rfl (by kernel_rfl) (part_len (n := 15) N_.out (by decide)) C9.out ?_; rw [← HPV.out]))
            go_roundw
            case rel =>
              refine ⟨j + 1, by rw [show wrap64 ((j : Int) + 1) = ((j + 1 : Nat) : Int) by (have := C9.out; unfold wrap64; omega)], ⟨by have := C9.out; omega⟩, ⟨fun i hi => ?_⟩, by repeat (first | exact Drawn0.refl _ | apply Drawn0.step)⟩
              by_cases hij : i = j
              · subst hij; exact by rw [← HPV2.out]; exact .inr (by rw [← HS.out]; have := HBB.out; have := CB.out; omega)
              · exact hall.out i (by omega)
            case measure =>
              rw [show wrap64 ((j : Int) + 1) = ((j + 1 : Nat) : Int) by (have := C9.out; unfold wrap64; omega)]
              simp only [intOf, Int.toNat_natCast]
              have := C9.out
              omega
          case pos =>
            have cb_ : decide (bb ≤ (j : Int)) = true := decide_eq_true cb
            have CB := Aside0.mk cb
            clear cb
            by_cases cz : p = 0
            · have cz_ : (p != 0) = false := bne_eq_false_iff_eq.mpr cz
              have CZ := Aside0.mk cz
              clear cz
              go_wp2_with (first | ((with_reducible refine gate_dst (N := 31) rfl ?_); refine hx_index rfl 22 3 12 (.tmp 27) (.tmp 28) rfl (seg a0 1 12) j _ rfl rfl Try.underlying22 Try.underlying3 rfl (by kernel_rfl) (part_len (n := 15) N_.out (by decide)) C9.out ?_; rw [← HPV.out]))
              go_roundw
              case rel =>
                refine ⟨j + 1, by rw [show wrap64 ((j : Int) + 1) = ((j + 1 : Nat) : Int) by (have := C9.out; unfold wrap64; omega)], ⟨by have := C9.out; omega⟩, ⟨fun i hi => ?_⟩, by repeat (first | exact Drawn0.refl _ | apply Drawn0.step)⟩
                by_cases hij : i = j
                · subst hij; exact by rw [← HPV2.out]; exact .inl CZ.out
                · exact hall.out i (by omega)
              case measure =>
                rw [show wrap64 ((j : Int) + 1) = ((j + 1 : Nat) : Int) by (have := C9.out; unfold wrap64; omega)]
                simp only [intOf, Int.toNat_natCast]
                have := C9.out
                omega
            · have cz_ : (p != 0) = true := bne_iff_ne.mpr cz
              have CZ := Aside0.mk cz
              clear cz
              go_wp2_with (first | ((with_reducible refine gate_dst (N := 31) rfl ?_); refine hx_index rfl 22 3 12 (.tmp 27) (.tmp 28) rfl (seg a0 1 12) j _ rfl rfl Try.underlying22 Try.underlying3 rfl (by kernel_rfl) (part_len (n := 15) N_.out (by decide)) C9.out ?_; rw [← HPV.out]))
              go_ret
              refine ⟨?_, by first | exact pw_below_drewN HB.out _ | exact pw_below_drewN (pw_below_drewN HB.out _) _⟩
              have e_ : rootGood a0 = false := rootGood_dir j C9.out (by rw [← HPV2.out]; exact CZ.out) (by rw [← HS.out]; have := HBB.out; have := CB.out; omega)
              rw [← H.out, e_]; rfl
        · obtain rfl : j = 12 := by have := hj.out; omega
          have c13_ := row_cell (blk_drewN H3.out m3) 13 (lt_len (n := 15) N_.out (by decide))
          have c14_ := row_cell (blk_drewN H3.out m3) 14 (lt_len (n := 15) N_.out (by decide))
          rw [← HX13.out] at c13_
          rw [← HX14.out] at c14_
          by_cases d1 : 12 < bb
          · have d1_ : decide (12 < bb) = true := decide_eq_true d1
            have D1 := Aside0.mk d1
            clear d1
            by_cases d3 : 140 < bb
            · have d3_ : decide (140 < bb) = true := decide_eq_true d3
              have D3 := Aside0.mk d3
              clear d3
              go_wp2
              go_ret
              refine ⟨?_, by first | exact pw_below_drewN HB.out _ | exact pw_below_drewN (pw_below_drewN HB.out _) _⟩
              have e_ : rootGood a0 = true := rootGood_end (by rw [← HS.out]; exact W1) (by rw [← HS.out]; exact W2) hp.out hall.out (.inr (by rw [← HS.out]; have := HBB.out; have := D1.out; omega)) (.inr (by rw [← HS.out]; have := HBB.out; have := D3.out; omega))
              rw [← H.out, e_]; rfl
            · have d3_ : decide (140 < bb) = false := decide_eq_false d3
              have D3 := Aside0.mk d3
              clear d3
              by_cases d4 : x14 = 0
              · have d4_ : (x14 == 0) = true := beq_iff_eq.mpr d4
                have D4 := Aside0.mk d4
                clear d4
                go_wp2
                go_ret
                refine ⟨?_, by first | exact pw_below_drewN HB.out _ | exact pw_below_drewN (pw_below_drewN HB.out _) _⟩
                have e_ : rootGood a0 = true := rootGood_end (by rw [← HS.out]; exact W1) (by rw [← HS.out]; exact W2) hp.out hall.out (.inr (by rw [← HS.out]; have := HBB.out; have := D1.out; omega)) (.inl (by rw [← HX14.out]; exact D4.out))
                rw [← H.out, e_]; rfl
              · have d4_ : (x14 == 0) = false := beq_eq_false_iff_ne.mpr d4
                have D4 := Aside0.mk d4
                clear d4
                go_wp2
                go_ret
                refine ⟨?_, by first | exact pw_below_drewN HB.out _ | exact pw_below_drewN (pw_below_drewN HB.out _) _⟩
                have e_ : rootGood a0 = false := rootGood_13 (by rw [← HX14.out]; exact D4.out) (by rw [← HS.out]; have := HBB.out; have := D3.out; omega)
                rw [← H.out, e_]; rfl
          · have d1_ : decide (12 < bb) = false := decide_eq_false d1
            have D1 := Aside0.mk d1
            clear d1
            by_cases d2 : x13 = 0
            · have d2_ : (x13 == 0) = true := beq_iff_eq.mpr d2
              have D2 := Aside0.mk d2
              clear d2
              by_cases d3 : 140 < bb
              · have d3_ : decide (140 < bb) = true := decide_eq_true d3
                have D3 := Aside0.mk d3
                clear d3
                go_wp2
                go_ret
                refine ⟨?_, by first | exact pw_below_drewN HB.out _ | exact pw_below_drewN (pw_below_drewN HB.out _) _⟩
                have e_ : rootGood a0 = true := rootGood_end (by rw [← HS.out]; exact W1) (by rw [← HS.out]; exact W2) hp.out hall.out (.inl (by rw [← HX13.out]; exact D2.out)) (.inr (by rw [← HS.out]; have := HBB.out; have := D3.out; omega))
                rw [← H.out, e_]; rfl
              · have d3_ : decide (140 < bb) = false := decide_eq_false d3
                have D3 := Aside0.mk d3
                clear d3
                by_cases d4 : x14 = 0
                · have d4_ : (x14 == 0) = true := beq_iff_eq.mpr d4
                  have D4 := Aside0.mk d4
                  clear d4
                  go_wp2
                  go_ret
                  refine ⟨?_, by first | exact pw_below_drewN HB.out _ | exact pw_below_drewN (pw_below_drewN HB.out _) _⟩
                  have e_ : rootGood a0 = true := rootGood_end (by rw [← HS.out]; exact W1) (by rw [← HS.out]; exact W2) hp.out hall.out (.inl (by rw [← HX13.out]; exact D2.out)) (.inl (by rw [← HX14.out]; exact D4.out))
                  rw [← H.out, e_]; rfl
                · have d4_ : (x14 == 0) = false := beq_eq_false_iff_ne.mpr d4
                  have D4 := Aside0.mk d4
                  clear d4
                  go_wp2
                  go_ret
                  refine ⟨?_, by first | exact pw_below_drewN HB.out _ | exact pw_below_drewN (pw_below_drewN HB.out _) _⟩
                  have e_ : rootGood a0 = false := rootGood_13 (by rw [← HX14.out]; exact D4.out) (by rw [← HS.out]; have := HBB.out; have := D3.out; omega)
                  rw [← H.out, e_]; rfl
            · have d2_ : (x13 == 0) = false := beq_eq_false_iff_ne.mpr d2
              have D2 := Aside0.mk d2
              clear d2
              go_wp2
              go_ret
              refine ⟨?_, by first | exact pw_below_drewN HB.out _ | exact pw_below_drewN (pw_below_drewN HB.out _) _⟩
              have e_ : rootGood a0 = false := rootGood_12 (by rw [← HX13.out]; exact D2.out) (by rw [← HS.out]; have := HBB.out; have := D1.out; omega)
              rw [← H.out, e_]; rfl

end Go.Proofs.Ytkghgjehjchajaa.PFnExactEncodeTable
