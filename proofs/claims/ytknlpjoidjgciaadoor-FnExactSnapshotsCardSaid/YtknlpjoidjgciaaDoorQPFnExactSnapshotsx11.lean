/- PFnExactSnapshotsx11: functions of the law, walked; written by a program of this session. No condition. -/
import Derived.Test.YtknlpjoidjgciaaDoorQPFnExactSnapshotsx0
import Derived.Test.YtknlpjoidjgciaaDoorQPFnExactSnapshotsx10
namespace Go.Proofs.YtknlpjoidjgciaaDoor.PFnExactSnapshots
open Go.RowKit Go.Proofs.YtknlpjoidjgciaaDoorW.PrintWords Go.Proofs.YtknlpjoidjgciaaDoorW.PrintLast Go.Proofs.YtknlpjoidjgciaaDoorW.PrintMore
attribute [local go_sem] max2_int min2_int max_two min_two max_three min_three max_four min_four
set_option linter.unusedVariables false
set_option linter.unusedSimpArgs false
open Go.Proofs.YtknlpjoidjgciaaDoorW Go.Proofs.YtknlpjoidjgciaaDoorW.PrintHand Go.Proofs.YtknlpjoidjgciaaDoorW.PrintHx
def impl_Root_pointers.f (a0 : List Int) : Option (List Int) := if a0.length = 15 then some (seg a0 1 14) else none
def impl_Root_pointers.T1 : Bool × List (List Nat × List Nat) := (true, [([], []), ([], []), ([1], [1]), ([0, 2], [0, 2]), ([], []), ([4], [4]), ([], []), ([6], [6]), ([5, 7], [5, 7]), ([3, 8, 3], [3, 8]), ([9, 9, 0, 1, 2, 3, 4, 5, 6, 7, 8, 9], [9])])
def impl_Root_pointers.B1 : List Nat := [0, 0, 2, 7, 0, 16, 0, 64, 240, 511, 1023]
theorem impl_Root_pointers.tab1 : rtab .any (opsOf Tryd.f184 1) = impl_Root_pointers.T1 := by kernel_rfl
theorem impl_Root_pointers.bits1 : waitsOk impl_Root_pointers.T1.2 impl_Root_pointers.B1 = true := by kernel_rfl
set_option maxHeartbeats 8000000 in
set_option maxRecDepth 100000 in
theorem impl_Root_pointers.calls (a0 : List Int) (n0 : a0.length = 15) (r : List Int) (w : World) (h : impl_Root_pointers.f a0 = some r) :
    Calls Tryd.prog 184 #[.agg (nums .i64 a0).toArray] w fun e w' => ∃ v0_ : Value, e = .returned (v0_) ∧ Kd.R (Kd.int .i64) 3 w' w.heap.size (fun _ => True) v0_ r ∧ Below w.heap.size w w' := by
  unfold impl_Root_pointers.f at h
  rw [if_pos n0] at h
  obtain rfl := Option.some.inj h
  have N_ := Aside0.mk n0
  clear n0 h
  have info3_ : (Tryd.prog.info? 3).map (fun i => (i.zero, i.size, i.bytes)) = some (some (.int .i64 0), 1, 8) := by kernel_rfl
  have hu22 := Tryd.underlying22
  have HB0 : Aside0 (Below w.heap.size w w) := ⟨Below.refl _ _⟩
  obtain ⟨s0, Sz0⟩ : ∃ s0, Aside0 (w.heap.size = s0) := ⟨_, ⟨rfl⟩⟩
  have hw0 : w.heap.size ≤ s0 := Nat.le_of_eq Sz0.out
  have hw1 : s0 ≤ w.heap.size := Nat.le_of_eq Sz0.out.symm
  go_enter Tryd.func184, Tryd.ntmps184
  go_wp2_with (first | ((with_reducible refine gate_dst (N := 1) rfl ?_); refine hx_box rfl 1 rfl 124 (.tmp 0) rfl Sz0 (.agg (nums .i64 a0).toArray) (nums .i64 a0).toArray rfl rfl ?_; intro w1 s1 L1 Sz1 b1 g_; have H0 := Aside0.mk g_; have HB1 := Aside0.mk (below_then HB0.out HB0.out.size b1); clear g_ HB0 b1))
  have HB := HB1
  have FV := HB1
  refine start_ (n := 11) (S := fun w' => True) (ds := []) #[false, false, false, false, false, false, false, false, false, false, false] (by kernel_rfl) rfl rfl trivial (fun hHeld => ?_)
  refine with_tabW impl_Root_pointers.tab1 impl_Root_pointers.bits1 (fun HT_ HW_ => ?_)
  refine pure_ (i := 1) (N := some 4) (v := ?_) (a' := ?_) #[false, true, false, false, false, false, false, false, false, false, false] rfl rfl (any_of HT_.out (by kernel_rfl)) (fun _ _ _ h => h) (Or.inl ⟨by rfl, ?_⟩) ?_ ?_
  rotate_left
  · intro w'
    go_simp
    with_reducible rfl
  rotate_left
  · simp only [Act.put, List.setIfInBounds_toArray, List.set_cons_zero, List.set_cons_succ, i64_w, i32_w]
    rfl
  refine pure_ (i := 2) (N := some 5) (v := ?_) (a' := ?_) #[false, true, true, false, false, false, false, false, false, false, false] rfl rfl (any_of HT_.out (by kernel_rfl)) (fun _ _ _ h => h) (Or.inl ⟨by rfl, ?_⟩) ?_ ?_
  rotate_left
  · intro w'
    go_simp
    with_reducible rfl
  rotate_left
  · simp only [Act.put, List.setIfInBounds_toArray, List.set_cons_zero, List.set_cons_succ, i64_w, i32_w]
    rfl
  refine pure_ (i := 4) (N := some 7) (v := ?_) (a' := ?_) #[false, true, true, false, true, false, false, false, false, false, false] rfl rfl (any_of HT_.out (by kernel_rfl)) (fun _ _ _ h => h) (Or.inl ⟨by rfl, ?_⟩) ?_ ?_
  rotate_left
  · intro w'
    go_simp
    with_reducible rfl
  rotate_left
  · simp only [Act.put, List.setIfInBounds_toArray, List.set_cons_zero, List.set_cons_succ, i64_w, i32_w]
    rfl
  refine pure_ (i := 6) (N := some 9) (v := ?_) (a' := ?_) #[false, true, true, false, true, false, true, false, false, false, false] rfl rfl (any_of HT_.out (by kernel_rfl)) (fun _ _ _ h => h) (Or.inl ⟨by rfl, ?_⟩) ?_ ?_
  rotate_left
  · intro w'
    go_simp
    with_reducible rfl
  rotate_left
  · simp only [Act.put, List.setIfInBounds_toArray, List.set_cons_zero, List.set_cons_succ, i64_w, i32_w]
    rfl
  refine inv_at [0, 3, 5, 7, 8, 9, 10] (fun a0_ b a w' => ∃ (v0 : Value) (v3 : Value) (v8 : Value) (v9 : Value) (m10_ : Value), a = putSel a0_ b [(0, 3, v0), (3, 6, v3), (5, 8, .int .i64 (a0.getD 13 0)), (7, 10, .int .i64 (a0.getD 14 0)), (8, 11, v8), (9, 12, v9), (10, 2, m10_)] ∧ (Below w.heap.size w w') ∧ (w'.heap[s0]? = some (.cells (nums .i64 a0).toArray 124 (0, 0))) ∧ (∀ k, (v0 : Value).ownBlock = some k → k < w'.heap.size) ∧ (b 0 = true → b 3 = false → Kd.R (Kd.int .i64) 3 w' w.heap.size (fun k => k ≠ s0) v0 []) ∧ (b 3 = true → b 9 = false → Kd.R (Kd.int .i64) 3 w' w.heap.size (fun k => k ≠ s0) v3 ([] ++ seg a0 1 12)) ∧ (b 8 = true → b 9 = false → Kd.R (Kd.int .i64) 3 w' w.heap.size (fun k => k ≠ s0 ∧ some k ≠ (v0 : Value).ownBlock) v8 [a0.getD 13 0, a0.getD 14 0]) ∧ (b 9 = true → Kd.R (Kd.int .i64) 3 w' w.heap.size (fun k => k ≠ s0) v9 (([] ++ seg a0 1 12) ++ [a0.getD 13 0, a0.getD 14 0])) ∧ (b 10 = true → (m10_ : Value) = v9)) HT_.out HW_.out (by kernel_rfl) (by kernel_rfl) ?_ ?_ ?_
  · exact ⟨.bool false, .bool false, .bool false, .bool false, .bool false, by simp only [putSel, Bool.false_eq_true, if_false], HB1.out.drew, blk_drew H0.out, fun k h_ => by simp [Value.ownBlock] at h_, fun h_ => absurd h_ (by decide), fun h_ => absurd h_ (by decide), fun h_ => absurd h_ (by decide), fun h_ => absurd h_ (by decide), fun h_ => absurd h_ (by decide)⟩
  · skip
    clear FV H0 HB
    refine steps_cons ?_ ?_
    · rintro b a w' ⟨v0, v3, v8, v9, m10_, ha, Q_HB, Q_H0, Q_FV, Q_F0, Q_F3, Q_F8, Q_F9, Q_X10_⟩ hb_ hon hoff
      refine ⟨_, rfl, fun K hK => ?_⟩
      replace ha := Aside0.mk ha
      have HB := Aside0.mk Q_HB
      have H0 := Aside0.mk Q_H0
      have FV := Aside0.mk Q_FV
      refine Kd.R_lit_step (Kd.int .i64) (w0 := w) w.heap.size 3 (by rfl) (N := 3) rfl (xs := ([] : List Int)) (inner := []) (ok := fun k => k ≠ s0) (okp := fun _ => False) ?hr (Reps.none _ _) (fun _ h_ => h_.elim) (by have := blk_lt H0.out; omega) HB.out HB.out.size (by simp) ?_
      (case hr => first | (go_simp; done) | (go_simp; rfl))
      intro v_ w_ ho hb hg_ hn_
      refine hK.out _ _ ⟨v_, v3, v8, v9, m10_, (by rw [ha.out]; exact putSel_upk 0 hb_ rfl rfl rfl), hb, blk_grown H0.out hg_ (by simp), Kd.R_lt ho, fun _ _ => ho, fun h0_ _ => absurd ((hoff 3 (by kernel_rfl)).symm.trans h0_) (by decide), fun h0_ h1_ => Kd.R_mono (Kd.R_grown (Kd.R_bound (Q_F8 h0_ h1_)) hg_ (fun _ _ => by simp)) (fun k hk => ⟨hk.1.1, fun e_ => by obtain ⟨b_, h1_, h2_⟩ := hn_; rw [h1_] at e_; injection e_ with e_; have := hk.2.2.1; omega⟩), fun h0_ => absurd ((hoff 9 (by kernel_rfl)).symm.trans h0_) (by decide), fun h0_ => absurd ((hoff 10 (by kernel_rfl)).symm.trans h0_) (by decide)⟩
    refine steps_cons ?_ ?_
    · rintro b a w' ⟨v0, v3, v8, v9, m10_, ha, Q_HB, Q_H0, Q_FV, Q_F0, Q_F3, Q_F8, Q_F9, Q_X10_⟩ hb_ hon hoff
      refine ⟨_, rfl, fun K hK => ?_⟩
      have e3 : a.tmps[3]? = some (v0) := by rw [ha]; exact putSel_on (e := (0, 3, v0)) 0 rfl rfl (hon 0 (by kernel_rfl)) rfl
      have e5 : a.tmps[5]? = some (.slice (some ⟨s0, 1, none⟩) 12 12) := by rw [ha]; exact (putSel_off rfl).trans rfl
      replace ha := Aside0.mk ha
      have HB := Aside0.mk Q_HB
      have H0 := Aside0.mk Q_H0
      have FV := Aside0.mk Q_FV
      have F0 := Aside0.mk (Q_F0 (hon 0 (by kernel_rfl)) hb_)
      refine Kd.R_append_rows_step (Kd.int .i64) (w0 := w) w.heap.size (by rfl) (.tmp 3) (.tmp 5) 80 3 (.int .i64 0) 8 rfl Tryd.underlying80 info3_ rfl (by decide) (by omega) v0 [] (seg a0 1 12) (some ⟨s0, 1, none⟩) 12 12 (fun k => k ≠ s0) (fun _ => False) (eval_of e3) (eval_of e5) F0.out (part_reads H0.out 1 12 (le_len (n := 15) N_.out (by decide)) (by decide)) (fun _ _ h => h) (fun _ h => h.elim) (fun k hk => by have := blk_lt H0.out; omega) HB.out HB.out.size (by decide) ?_
      intro v_ w_ ho hb hg_ hn_
      refine hK.out _ _ ⟨v0, v_, v8, v9, m10_, (by rw [ha.out]; exact putSel_upk 1 hb_ rfl rfl rfl), hb, blk_grown H0.out hg_ (fun e_ => (F0.out.1 s0 e_.symm) rfl), fun k hk => Nat.lt_of_lt_of_le (FV.out k hk) hg_.size, fun _ h1_ => absurd ((up_self b 3).symm.trans h1_) (by decide), fun _ _ => ho, fun h0_ h1_ => Kd.R_grown (Q_F8 h0_ h1_) hg_ (fun k hk => hk.2), fun h0_ => absurd ((hoff 9 (by kernel_rfl)).symm.trans h0_) (by decide), fun h0_ => absurd ((hoff 10 (by kernel_rfl)).symm.trans h0_) (by decide)⟩
    refine steps_cons ?_ ?_
    · rintro b a w' ⟨v0, v3, v8, v9, m10_, ha, Q_HB, Q_H0, Q_FV, Q_F0, Q_F3, Q_F8, Q_F9, Q_X10_⟩ hb_ hon hoff
      refine ⟨_, rfl, fun K hK => ?_⟩
      have e7 : a.tmps[7]? = some (.pointer (some ⟨s0, 13, none⟩)) := by rw [ha]; exact (putSel_off rfl).trans rfl
      replace ha := Aside0.mk ha
      have HB := Aside0.mk Q_HB
      have H0 := Aside0.mk Q_H0
      have FV := Aside0.mk Q_FV
      have c_ := row_cell H0.out 13 (lt_len (n := 15) N_.out (by decide))
      refine value_ (w1 := w') (v := .int .i64 (a0.getD 13 0)) (by rfl) rfl ?_ ?_
      · go_simp
        (try simp only [i64_w])
        try rfl
      refine hK.out _ _ ⟨v0, v3, v8, v9, m10_, (by rw [ha.out]; exact putSel_upk 2 hb_ rfl rfl rfl), Q_HB, Q_H0, Q_FV, Q_F0, Q_F3, fun h0_ _ => absurd ((hoff 8 (by kernel_rfl)).symm.trans h0_) (by decide), fun h0_ => absurd ((hoff 9 (by kernel_rfl)).symm.trans h0_) (by decide), fun h0_ => absurd ((hoff 10 (by kernel_rfl)).symm.trans h0_) (by decide)⟩
    refine steps_cons ?_ ?_
    · rintro b a w' ⟨v0, v3, v8, v9, m10_, ha, Q_HB, Q_H0, Q_FV, Q_F0, Q_F3, Q_F8, Q_F9, Q_X10_⟩ hb_ hon hoff
      refine ⟨_, rfl, fun K hK => ?_⟩
      have e9 : a.tmps[9]? = some (.pointer (some ⟨s0, 14, none⟩)) := by rw [ha]; exact (putSel_off rfl).trans rfl
      replace ha := Aside0.mk ha
      have HB := Aside0.mk Q_HB
      have H0 := Aside0.mk Q_H0
      have FV := Aside0.mk Q_FV
      have c_ := row_cell H0.out 14 (lt_len (n := 15) N_.out (by decide))
      refine value_ (w1 := w') (v := .int .i64 (a0.getD 14 0)) (by rfl) rfl ?_ ?_
      · go_simp
        (try simp only [i64_w])
        try rfl
      refine hK.out _ _ ⟨v0, v3, v8, v9, m10_, (by rw [ha.out]; exact putSel_upk 3 hb_ rfl rfl rfl), Q_HB, Q_H0, Q_FV, Q_F0, Q_F3, fun h0_ _ => absurd ((hoff 8 (by kernel_rfl)).symm.trans h0_) (by decide), fun h0_ => absurd ((hoff 9 (by kernel_rfl)).symm.trans h0_) (by decide), fun h0_ => absurd ((hoff 10 (by kernel_rfl)).symm.trans h0_) (by decide)⟩
    refine steps_cons ?_ ?_
    · rintro b a w' ⟨v0, v3, v8, v9, m10_, ha, Q_HB, Q_H0, Q_FV, Q_F0, Q_F3, Q_F8, Q_F9, Q_X10_⟩ hb_ hon hoff
      refine ⟨_, rfl, fun K hK => ?_⟩
      have e8 : a.tmps[8]? = some (.int .i64 (a0.getD 13 0)) := by rw [ha]; exact putSel_on (e := (5, 8, .int .i64 (a0.getD 13 0))) 2 rfl rfl (hon 5 (by kernel_rfl)) rfl
      have e10 : a.tmps[10]? = some (.int .i64 (a0.getD 14 0)) := by rw [ha]; exact putSel_on (e := (7, 10, .int .i64 (a0.getD 14 0))) 3 rfl rfl (hon 7 (by kernel_rfl)) rfl
      replace ha := Aside0.mk ha
      have HB := Aside0.mk Q_HB
      have H0 := Aside0.mk Q_H0
      have FV := Aside0.mk Q_FV
      refine Kd.R_lit_step (Kd.int .i64) (w0 := w) w.heap.size 3 (by rfl) (N := 11) rfl (xs := ([a0.getD 13 0, a0.getD 14 0] : List Int)) (inner := (nums .i64 [a0.getD 13 0, a0.getD 14 0])) (ok := fun k => k ≠ s0 ∧ some k ≠ (v0 : Value).ownBlock) (okp := fun _ => False) ?hr (reps_ints _) (fun _ h_ => h_.elim) ⟨by have := blk_lt H0.out; omega, fun e_ => Nat.lt_irrefl _ (FV.out _ e_.symm)⟩ HB.out HB.out.size (by simp) ?_
      (case hr => first | (go_simp; done) | (go_simp; rfl))
      intro v_ w_ ho hb hg_ hn_
      refine hK.out _ _ ⟨v0, v3, v_, v9, m10_, (by rw [ha.out]; exact putSel_upk 4 hb_ rfl rfl rfl), hb, blk_grown H0.out hg_ (by simp), fun k hk => Nat.lt_of_lt_of_le (FV.out k hk) hg_.size, fun h0_ h1_ => Kd.R_grown (Q_F0 h0_ h1_) hg_ (fun _ _ => by simp), fun h0_ h1_ => Kd.R_grown (Q_F3 h0_ h1_) hg_ (fun _ _ => by simp), fun _ _ => ho, fun h0_ => absurd ((hoff 9 (by kernel_rfl)).symm.trans h0_) (by decide), fun h0_ => absurd ((hoff 10 (by kernel_rfl)).symm.trans h0_) (by decide)⟩
    refine steps_cons ?_ ?_
    · rintro b a w' ⟨v0, v3, v8, v9, m10_, ha, Q_HB, Q_H0, Q_FV, Q_F0, Q_F3, Q_F8, Q_F9, Q_X10_⟩ hb_ hon hoff
      refine ⟨_, rfl, fun K hK => ?_⟩
      have e6 : a.tmps[6]? = some (v3) := by rw [ha]; exact putSel_on (e := (3, 6, v3)) 1 rfl rfl (hon 3 (by kernel_rfl)) rfl
      have e11 : a.tmps[11]? = some (v8) := by rw [ha]; exact putSel_on (e := (8, 11, v8)) 4 rfl rfl (hon 8 (by kernel_rfl)) rfl
      replace ha := Aside0.mk ha
      have HB := Aside0.mk Q_HB
      have H0 := Aside0.mk Q_H0
      have FV := Aside0.mk Q_FV
      have F3 := Aside0.mk (Q_F3 (hon 3 (by kernel_rfl)) hb_)
      have F8 := Aside0.mk (Q_F8 (hon 8 (by kernel_rfl)) hb_)
      obtain ⟨A8_, c8_, q8_⟩ := Kd.R_slice F8.out
      have F8' := F8.out
      rw [q8_] at F8'
      refine Kd.R_append_rows_step (Kd.int .i64) (w0 := w) w.heap.size (by rfl) (.tmp 6) (.tmp 11) 80 3 (.int .i64 0) 8 rfl Tryd.underlying80 info3_ rfl (by decide) (by omega) v3 ([] ++ seg a0 1 12) [a0.getD 13 0, a0.getD 14 0] _ _ _ (fun k => k ≠ s0) (fun _ => False) (eval_of e6) ((eval_of e11).trans q8_) F3.out (Kd.R_reads' F8').2.2 (fun _ _ h => h) (fun _ h => h.elim) (fun k hk => by have := blk_lt H0.out; omega) HB.out HB.out.size (by rw [List.nil_append, part_len (n := 15) N_.out (by decide)]; show (12 + 2) * 8 ≤ 140737488355328; decide) ?_
      intro v_ w_ ho hb hg_ hn_
      refine hK.out _ _ ⟨v0, v3, v8, v_, m10_, (by rw [ha.out]; exact putSel_upk 5 hb_ rfl rfl rfl), hb, blk_grown H0.out hg_ (fun e_ => (F3.out.1 s0 e_.symm) rfl), fun k hk => Nat.lt_of_lt_of_le (FV.out k hk) hg_.size, fun _ h1_ => absurd ((hon 3 (by kernel_rfl)).symm.trans h1_) (by decide), fun _ h1_ => absurd ((up_self b 9).symm.trans h1_) (by decide), fun _ h1_ => absurd ((up_self b 9).symm.trans h1_) (by decide), fun _ => ho, fun h0_ => absurd ((hoff 10 (by kernel_rfl)).symm.trans h0_) (by decide)⟩
    refine steps_cons ?_ ?_
    · rintro b a w' ⟨v0, v3, v8, v9, m10_, ha, Q_HB, Q_H0, Q_FV, Q_F0, Q_F3, Q_F8, Q_F9, Q_X10_⟩ hb_ hon hoff
      refine ⟨_, rfl, fun K hK => ?_⟩
      have e12 : a.tmps[12]? = some (v9) := by rw [ha]; exact putSel_on (e := (9, 12, v9)) 5 rfl rfl (hon 9 (by kernel_rfl)) rfl
      replace ha := Aside0.mk ha
      have HB := Aside0.mk Q_HB
      have H0 := Aside0.mk Q_H0
      have FV := Aside0.mk Q_FV
      have F9 := Aside0.mk (Q_F9 (hon 9 (by kernel_rfl)))
      refine value_ (w1 := w') (v := v9) (by rfl) rfl ?_ ?_
      · go_simp
        (try simp only [i64_w])
        try rfl
      refine hK.out _ _ ⟨v0, v3, v8, v9, (v9), (by rw [ha.out]; exact putSel_upk 6 hb_ rfl rfl rfl), Q_HB, Q_H0, Q_FV, fun _ h1_ => absurd ((hon 3 (by kernel_rfl)).symm.trans h1_) (by decide), fun _ h1_ => absurd ((hon 9 (by kernel_rfl)).symm.trans h1_) (by decide), fun _ h1_ => absurd ((hon 9 (by kernel_rfl)).symm.trans h1_) (by decide), Q_F9, fun _ => rfl⟩
    exact steps_nil
  · rintro b a w' hall ⟨v0, v3, v8, v9, m10_, ha, Q_HB, Q_H0, Q_FV, Q_F0, Q_F3, Q_F8, Q_F9, Q_X10_⟩
    clear FV H0 HB
    have hb0_ := hall 0 (by kernel_rfl)
    have hb3_ := hall 3 (by kernel_rfl)
    have hb5_ := hall 5 (by kernel_rfl)
    have hb7_ := hall 7 (by kernel_rfl)
    have hb8_ := hall 8 (by kernel_rfl)
    have hb9_ := hall 9 (by kernel_rfl)
    have hb10_ := hall 10 (by kernel_rfl)
    subst ha
    obtain rfl := Q_X10_ hb10_
    simp only [putSel, hb0_, hb3_, hb5_, hb7_, hb8_, hb9_, hb10_, if_true, Act.put, List.setIfInBounds_toArray, List.set_cons_zero, List.set_cons_succ]
    have HB := Aside0.mk Q_HB
    clear Q_HB
    have H0 := Aside0.mk Q_H0
    clear Q_H0
    have FV := Aside0.mk Q_FV
    clear Q_FV
    clear Q_F0
    clear Q_F3
    clear Q_F8
    have F9 := Aside0.mk (Q_F9 hb9_)
    clear Q_F9
    clear hall hb0_ hb3_ hb5_ hb7_ hb8_ hb9_ hb10_
    go_wp2
    go_ret
    have ho := F9.out
    rw [pointers_of a0 N_.out] at ho
    exact ⟨_, rfl, Kd.R_mono ho (fun _ _ => trivial), HB.out⟩
def impl_isPointer.f (a0 : Int) (a1 : Int) : Option (Bool) := if a0 = 0 then (some true) else ((impl_within.f a0 2 (wrap64 (a1 - 1))).bind fun t149 => (some t149))
set_option maxHeartbeats 8000000 in
set_option maxRecDepth 100000 in
theorem impl_isPointer.calls (a0 : Int) (a1 : Int) (r : Bool) (w : World) (h : impl_isPointer.f a0 a1 = some r) :
    Calls Tryd.prog 185 #[.int .i64 a0, .int .i64 a1] w fun e w' => e = .returned (.bool r) ∧ Drawn0 w w' := by
  have H : (if a0 = 0 then (some true) else ((impl_within.f a0 2 (wrap64 (a1 - 1))).bind fun t149 => (some t149))) = some r := h
  clear h
  by_cases c3 : a0 = 0
  · rw [if_pos c3] at H
    have c3b0 : (a0 == 0) = true := beq_iff_eq.mpr c3
    have c3b1 : (a0 != 0) = false := bne_eq_false_iff_eq.mpr c3
    clear c3
    obtain rfl := Option.some.inj H
    go_enter Tryd.func185, Tryd.ntmps185
    go_wp2
    go_ret
    exact ⟨by first | rfl | (simp; done) | (simp [*]; done), by repeat (first | exact Drawn0.refl _ | apply Drawn0.step)⟩
  · rw [if_neg c3] at H
    have c3b0 : (a0 == 0) = false := beq_eq_false_iff_ne.mpr c3
    have c3b1 : (a0 != 0) = true := bne_iff_ne.mpr c3
    replace H := Option.bind_eq_some_iff.mp H
    obtain ⟨t149, A40, H⟩ := H
    replace H : (some t149) = some r := H
    have A4 := Aside0.mk A40
    clear A40
    obtain rfl := Option.some.inj H
    go_enter Tryd.func185, Tryd.ntmps185
    go_wp2_with (first | (go_at_call 87; (with_reducible refine (impl_within.calls a0 2 (wrap64 (a1 - 1)) t149 _ A4.out).mono ?_); rintro e w' ⟨rfl, ⟨nd, rfl⟩⟩))
    go_ret
    exact ⟨by first | rfl | (simp; done) | (simp [*]; done), by repeat (first | exact Drawn0.refl _ | apply Drawn0.step)⟩
def impl_count.f (a0 : Int) : Option (Int) := some (wrap64 (Int.tdiv (wrap64 ((wrap64 (a0 + 512)) - 1)) 512))
set_option maxHeartbeats 8000000 in
set_option maxRecDepth 100000 in
theorem impl_count.calls (a0 : Int) (r : Int) (w : World) (h : impl_count.f a0 = some r) :
    Calls Tryd.prog 195 #[.int .i64 a0] w fun e w' => e = .returned (.int .i64 r) ∧ Drawn0 w w' := by
  have H : (some (wrap64 (Int.tdiv (wrap64 ((wrap64 (a0 + 512)) - 1)) 512))) = some r := h
  clear h
  obtain rfl := Option.some.inj H
  go_enter Tryd.func195, Tryd.ntmps195
  go_wp2
  go_ret
  exact ⟨by first | rfl | (simp; done) | (simp [*]; done), by repeat (first | exact Drawn0.refl _ | apply Drawn0.step)⟩
open Go.Proofs.YtknlpjoidjgciaaDoorW Go.Proofs.YtknlpjoidjgciaaDoorW.PrintHand Go.Proofs.YtknlpjoidjgciaaDoorW.PrintHx
def impl_Root_right.f (a0 : List Int) : Option Bool := some (rootGood a0)
theorem impl_Root_right.within (a b c : Int) : impl_within.f a b c = some (decide (b ≤ a ∧ a ≤ c)) := by
  unfold impl_within.f
  by_cases h : b ≤ a <;> simp [h]
theorem impl_Root_right.ptr (p : Int) : impl_isPointer.f p 2048 = some (ptrOk p) := by
  unfold impl_isPointer.f ptrOk
  by_cases h : p = 0
  · simp [h]
  · rw [if_neg h, impl_Root_right.within, Option.bind_some, show wrap64 (2048 - 1) = 2047 by unfold wrap64; omega]
    congr 1
    rw [decide_eq_false h, Bool.false_or, ← Bool.decide_and]
    apply decide_eq_decide.2
    omega
theorem impl_Root_right.count (s : Int) (h0 : 0 ≤ s) (h1 : s ≤ 262144) : impl_count.f s = some ((s + 511) / 512) := by
  unfold impl_count.f
  have e1 : wrap64 (s + 512) = s + 512 := by unfold wrap64; omega
  have e2 : wrap64 (s + 512 - 1) = s + 511 := by unfold wrap64; omega
  rw [e1, e2, Int.tdiv_eq_ediv_of_nonneg (by omega)]
  congr 1
  unfold wrap64
  omega
set_option maxHeartbeats 8000000 in
set_option maxRecDepth 100000 in
theorem impl_Root_right.calls (a0 : List Int) (n0 : a0.length = 15) (r : Bool) (w : World) (h : impl_Root_right.f a0 = some r) :
    Calls Tryd.prog 182 #[.agg (nums .i64 a0).toArray] w fun e w' => e = .returned (.bool r) ∧ Below w.heap.size w w' := by
  have H := Aside0.mk (Option.some.inj h)
  have N_ := Aside0.mk n0
  clear n0 h
  obtain ⟨s, hs⟩ : ∃ s, s = a0.getD 0 0 := ⟨_, rfl⟩
  have HS := Aside0.mk hs
  obtain ⟨x13, hx13⟩ : ∃ x, x = a0.getD 13 0 := ⟨_, rfl⟩
  have HX13 := Aside0.mk hx13
  obtain ⟨x14, hx14⟩ : ∃ x, x = a0.getD 14 0 := ⟨_, rfl⟩
  have HX14 := Aside0.mk hx14
  clear hs hx13 hx14
  obtain ⟨xs, hxs⟩ : ∃ xs, xs = seg a0 1 14 := ⟨_, rfl⟩
  have HP := Aside0.mk (show impl_Root_pointers.f a0 = some xs by rw [hxs]; exact if_pos N_.out)
  have HXL := Aside0.mk (show xs.length = 14 by rw [hxs]; exact part_len (n := 15) N_.out (by decide))
  have HXS := Aside0.mk hxs
  clear hxs
  have HB0 : Aside0 (Below w.heap.size w w) := ⟨Below.refl _ _⟩
  obtain ⟨s0, Sz0⟩ : ∃ s0, Aside0 (w.heap.size = s0) := ⟨_, ⟨rfl⟩⟩
  have hw0 : w.heap.size ≤ s0 := Nat.le_of_eq Sz0.out
  have hw1 : s0 ≤ w.heap.size := Nat.le_of_eq Sz0.out.symm
  by_cases c1 : 0 ≤ s ∧ s ≤ 262144
  case neg =>
    have HW := Aside0.mk ((impl_Root_right.within s 0 262144).trans (by rw [decide_eq_false c1]))
    have C1 := Aside0.mk c1
    clear c1
    go_enter Tryd.func182, Tryd.ntmps182
    go_wp2_with (first | ((with_reducible refine gate_dst (N := 1) rfl ?_); refine hx_box rfl 1 rfl 124 (.tmp 0) rfl Sz0 (.agg (nums .i64 a0).toArray) (nums .i64 a0).toArray rfl rfl ?_; intro w1 s1 L1 Sz1 b1 g_; have H0 := Aside0.mk g_; have HB1 := Aside0.mk (below_then HB0.out HB0.out.size b1); clear g_ HB0 b1; have c0_ := row_cell H0.out 0 (lt_len (n := 15) N_.out (by decide)); rw [← HS.out] at c0_) | (go_at_call 87; refine (impl_within.calls s 0 262144 false _ HW.out).mono ?_; rintro e_ w_ ⟨rfl, ⟨nd, rfl⟩⟩))
    go_ret
    refine ⟨?_, pw_below_drewN HB1.out _⟩
    have e_ : rootGood a0 = false := by
      by_cases c2 : a0.getD 0 0 < 0
      · exact rootGood_low c2
      · exact rootGood_high (by have := C1.out; rw [HS.out] at this; omega)
    rw [← H.out, e_]; rfl
  have HW := Aside0.mk ((impl_Root_right.within s 0 262144).trans (by rw [decide_eq_true c1]))
  have W1 : 0 ≤ s := c1.1
  have W2 : s ≤ 262144 := c1.2
  clear c1
  obtain ⟨bb, hbb⟩ : ∃ b, b = (s + 511) / 512 := ⟨_, rfl⟩
  have HC := Aside0.mk (show impl_count.f s = some bb by rw [hbb]; exact impl_Root_right.count s W1 W2)
  have HBB := Aside0.mk hbb
  have hbb1 : 0 ≤ bb := by omega
  have hbb2 : bb ≤ 1000 := by omega
  clear hbb
  go_enter Tryd.func182, Tryd.ntmps182
  go_wp2_with (first | ((with_reducible refine gate_dst (N := 1) rfl ?_); refine hx_box rfl 1 rfl 124 (.tmp 0) rfl Sz0 (.agg (nums .i64 a0).toArray) (nums .i64 a0).toArray rfl rfl ?_; intro w1 s1 L1 Sz1 b1 g_; have H0 := Aside0.mk g_; have HB1 := Aside0.mk (below_then HB0.out HB0.out.size b1); clear g_ HB0 b1; have c0_ := row_cell H0.out 0 (lt_len (n := 15) N_.out (by decide)); rw [← HS.out] at c0_) | (go_at_call 87; refine (impl_within.calls s 0 262144 true _ HW.out).mono ?_; rintro e_ w_ ⟨rfl, ⟨nd, rfl⟩⟩) | ((with_reducible refine gate_dst (N := 12) rfl ?_); refine hx_load rfl 124 (.tmp 1) rfl s0 15 rfl Tryd.underlying124 rfl (by kernel_rfl) (blk_drewN H0.out _) (nums_size _ _ _ N_.out) ?_) | ((with_reducible refine gate_dst (N := 13) rfl ?_); refine goesL_ (some 13) rfl rfl Tryd.func184 (by kernel_rfl) rfl #[.agg (nums .i64 a0).toArray] rfl (by (try simp only [List.map_toArray, List.map_cons, List.map_nil]); first | done | rfl) ?_; refine (impl_Root_pointers.calls a0 N_.out xs _ HP.out).mono ?_; rintro e_ w3 ⟨v0_, rfl, R_, b_⟩; obtain ⟨A21, c21, rfl⟩ := Kd.R_slice R_; refine ⟨_, rfl, ?_⟩; have O := Aside0.mk R_; have HB := Aside0.mk (below_then (pw_below_drewN HB1.out _) (pw_below_drewN HB1.out _).size b_); have H3 := Aside0.mk (blk_below (blk_drewN H0.out _) b_); clear R_ b_ HB1 H0 c0_))
  (try simp only [Act.put, List.setIfInBounds_toArray, List.set_cons_succ, List.set_cons_zero])
  go_loopw [15] (fun v15 wr => ∃ j : Nat, v15 = .int .i64 (j : Int) ∧ Aside0 (j ≤ 14) ∧ Aside0 (∀ i, i < j → ptrOk ((seg a0 1 14).getD i 0) = true) ∧ Drawn0 w3 wr) (fun v15 _ => 14 - (intOf v15).toNat)
  case atStart => exact ⟨0, rfl, ⟨by omega⟩, ⟨fun i hi => absurd hi (Nat.not_lt_zero i)⟩, Drawn0.refl _⟩
  case round =>
    obtain ⟨j, rfl, hj, hall, ⟨m2, rfl⟩⟩ := hrel
    by_cases c9 : j < 14
    · have c9b0 : decide ((j : Int) < (xs.length : Int)) = true := decide_eq_true (by rw [HXL.out]; omega)
      have c9b1 : decide (j < xs.length) = true := decide_eq_true (by rw [HXL.out]; omega)
      have p112 : 0 ≤ (j : Int) := by omega
      have q112 : (j : Int) < (xs.length : Int) := by rw [HXL.out]; omega
      obtain ⟨ad112, e112, hx112⟩ := Kd.at_int (Kd.C_drewN (Kd.R_reads' O.out).2.2 m2) (j : Int) p112 q112
      cases e112
      rw [Int.toNat_natCast] at hx112
      replace p112 := eq_true p112
      replace q112 := eq_true q112
      have q113 : (j < xs.length) = True := eq_true (by rw [HXL.out]; omega)
      obtain ⟨p, hp⟩ : ∃ p, p = rd xs (j : Int) := ⟨_, rfl⟩
      rw [← hp] at hx112
      have HPV := Aside0.mk (show p = (seg a0 1 14).getD j 0 by rw [hp, HXS.out, rd, Int.toNat_natCast])
      have C9 := Aside0.mk c9
      clear hp c9
      by_cases cq : ptrOk p = true
      · have HQ := Aside0.mk ((impl_Root_right.ptr p).trans (by rw [cq]))
        have CQ := Aside0.mk (show ptrOk ((seg a0 1 14).getD j 0) = true by rw [← HPV.out]; exact cq)
        clear cq
        go_wp2_with (first | (go_at_call 185; refine (impl_isPointer.calls p 2048 true _ HQ.out).mono ?_; rintro e_ w_ ⟨rfl, ⟨nd, rfl⟩⟩))
        go_roundw
        case rel =>
          refine ⟨j + 1, by rw [show wrap64 ((j : Int) + 1) = ((j + 1 : Nat) : Int) by (have := C9.out; unfold wrap64; omega)], ⟨by have := C9.out; omega⟩, ⟨fun i hi => ?_⟩, by repeat (first | exact Drawn0.refl _ | apply Drawn0.step)⟩
          by_cases hij : i = j
          · subst hij; exact CQ.out
          · exact hall.out i (by omega)
        case measure =>
          rw [show wrap64 ((j : Int) + 1) = ((j + 1 : Nat) : Int) by (have := C9.out; unfold wrap64; omega)]
          simp only [intOf, Int.toNat_natCast]
          have := C9.out
          omega
      · have cq2 : ptrOk p = false := by simpa using cq
        have HQ := Aside0.mk ((impl_Root_right.ptr p).trans (by rw [cq2]))
        have CQ := Aside0.mk cq2
        clear cq cq2
        go_wp2_with (first | (go_at_call 185; refine (impl_isPointer.calls p 2048 false _ HQ.out).mono ?_; rintro e_ w_ ⟨rfl, ⟨nd, rfl⟩⟩))
        go_ret
        refine ⟨?_, by first | exact pw_below_drewN HB.out _ | exact pw_below_drewN (pw_below_drewN HB.out _) _⟩
        have e_ : rootGood a0 = false := rootGood_bad j (by have := C9.out; omega) (by rw [ptrFits, ← HPV.out, CQ.out]; rfl)
        rw [← H.out, e_]; rfl
    · obtain rfl : j = 14 := by have := hj.out; omega
      have c9b0 : decide ((14 : Int) < (xs.length : Int)) = false := decide_eq_false (by rw [HXL.out]; decide)
      have c9b1 : decide (14 < xs.length) = false := decide_eq_false (by rw [HXL.out]; decide)
      have hp := hall
      have c0_ := row_cell (blk_drewN H3.out m2) 0 (lt_len (n := 15) N_.out (by decide))
      rw [← HS.out] at c0_
      clear hall hj
      go_wp2_with (first | (go_at_call 195; refine (impl_count.calls s bb _ HC.out).mono ?_; rintro e_ w_ ⟨rfl, ⟨nd, rfl⟩⟩) | ((with_reducible refine gate_dst (N := 27) rfl ?_); refine hx_loadp rfl 122 (.tmp 26) rfl s0 1 12 rfl Tryd.underlying122 rfl (by kernel_rfl) (blk_drewN H3.out _) (le_len (n := 15) N_.out (by decide)) ?_))
      (try simp only [Act.put, List.setIfInBounds_toArray, List.set_cons_succ, List.set_cons_zero])
      go_loopw [28] (fun v28 wr => ∃ j : Nat, v28 = .int .i64 (j : Int) ∧ Aside0 (j ≤ 12) ∧ Aside0 (∀ i, i < j → (seg a0 1 14).getD i 0 = 0 ∨ (i : Int) < (a0.getD 0 0 + 511) / 512) ∧ Drawn0 w3 wr) (fun v28 _ => 12 - (intOf v28).toNat)
      case atStart => exact ⟨0, rfl, ⟨by omega⟩, ⟨fun i hi => absurd hi (Nat.not_lt_zero i)⟩, by repeat (first | exact Drawn0.refl _ | apply Drawn0.step)⟩
      case round =>
        clear c0_ c9b0 c9b1 c9
        obtain ⟨j, rfl, hj, hall, ⟨m3, rfl⟩⟩ := hrel
        by_cases c9 : j < 12
        · have c9b0 : decide ((j : Int) < 12) = true := decide_eq_true (by omega)
          have c9b1 : decide (j < 12) = true := decide_eq_true c9
          obtain ⟨p, hp2⟩ : ∃ p, p = (seg a0 1 12).getD j 0 := ⟨_, rfl⟩
          have HPV := Aside0.mk hp2
          have HPV2 := Aside0.mk (show p = (seg a0 1 14).getD j 0 by rw [hp2, seg_getD _ _ _ _ c9, seg_getD _ _ _ _ (by omega)])
          have C9 := Aside0.mk c9
          clear hp2 c9
          by_cases cb : bb ≤ (j : Int)
          case neg =>
            have cb_ : decide (bb ≤ (j : Int)) = false := decide_eq_false cb
            have CB := Aside0.mk cb
            clear cb
            go_wp2_with (first | ((with_reducible refine gate_dst (N := 31) rfl ?_); refine hx_index rfl 122 3 12 (.tmp 27) (.tmp 28) rfl (seg a0 1 12) j _ rfl rfl Tryd.underlying122 Tryd.underlying3 rfl (by kernel_rfl) (part_len (n := 15) N_.out (by decide)) C9.out ?_; rw [← HPV.out]))
            go_roundw
            case rel =>
              refine ⟨j + 1, by rw [show wrap64 ((j : Int) + 1) = ((j + 1 : Nat) : Int) by (have := C9.out; unfold wrap64; omega)], ⟨by have := C9.out; omega⟩, ⟨fun i hi => ?_⟩, by repeat (first | exact Drawn0.refl _ | apply Drawn0.step)⟩
              by_cases hij : i = j
              · subst hij; exact by rw [← HPV2.out]; exact .inr (by rw [← HS.out]; have := HBB.out; have := CB.out; omega)
              · exact hall.out i (by omega)
            case measure =>
              rw [show wrap64 ((j : Int) + 1) = ((j + 1 : Nat) : Int) by (have := C9.out; unfold wrap64; omega)]
              simp only [intOf, Int.toNat_natCast]
              have := C9.out
              omega
          case pos =>
            have cb_ : decide (bb ≤ (j : Int)) = true := decide_eq_true cb
            have CB := Aside0.mk cb
            clear cb
            by_cases cz : p = 0
            · have cz_ : (p != 0) = false := bne_eq_false_iff_eq.mpr cz
              have CZ := Aside0.mk cz
              clear cz
              go_wp2_with (first | ((with_reducible refine gate_dst (N := 31) rfl ?_); refine hx_index rfl 122 3 12 (.tmp 27) (.tmp 28) rfl (seg a0 1 12) j _ rfl rfl Tryd.underlying122 Tryd.underlying3 rfl (by kernel_rfl) (part_len (n := 15) N_.out (by decide)) C9.out ?_; rw [← HPV.out]))
              go_roundw
              case rel =>
                refine ⟨j + 1, by rw [show wrap64 ((j : Int) + 1) = ((j + 1 : Nat) : Int) by (have := C9.out; unfold wrap64; omega)], ⟨by have := C9.out; omega⟩, ⟨fun i hi => ?_⟩, by repeat (first | exact Drawn0.refl _ | apply Drawn0.step)⟩
                by_cases hij : i = j
                · subst hij; exact by rw [← HPV2.out]; exact .inl CZ.out
                · exact hall.out i (by omega)
              case measure =>
                rw [show wrap64 ((j : Int) + 1) = ((j + 1 : Nat) : Int) by (have := C9.out; unfold wrap64; omega)]
                simp only [intOf, Int.toNat_natCast]
                have := C9.out
                omega
            · have cz_ : (p != 0) = true := bne_iff_ne.mpr cz
              have CZ := Aside0.mk cz
              clear cz
              go_wp2_with (first | ((with_reducible refine gate_dst (N := 31) rfl ?_); refine hx_index rfl 122 3 12 (.tmp 27) (.tmp 28) rfl (seg a0 1 12) j _ rfl rfl Tryd.underlying122 Tryd.underlying3 rfl (by kernel_rfl) (part_len (n := 15) N_.out (by decide)) C9.out ?_; rw [← HPV.out]))
              go_ret
              refine ⟨?_, by first | exact pw_below_drewN HB.out _ | exact pw_below_drewN (pw_below_drewN HB.out _) _⟩
              have e_ : rootGood a0 = false := rootGood_dir j C9.out (by rw [← HPV2.out]; exact CZ.out) (by rw [← HS.out]; have := HBB.out; have := CB.out; omega)
              rw [← H.out, e_]; rfl
        · obtain rfl : j = 12 := by have := hj.out; omega
          have c13_ := row_cell (blk_drewN H3.out m3) 13 (lt_len (n := 15) N_.out (by decide))
          have c14_ := row_cell (blk_drewN H3.out m3) 14 (lt_len (n := 15) N_.out (by decide))
          rw [← HX13.out] at c13_
          rw [← HX14.out] at c14_
          by_cases d1 : 12 < bb
          · have d1_ : decide (12 < bb) = true := decide_eq_true d1
            have D1 := Aside0.mk d1
            clear d1
            by_cases d3 : 140 < bb
            · have d3_ : decide (140 < bb) = true := decide_eq_true d3
              have D3 := Aside0.mk d3
              clear d3
              go_wp2
              go_ret
              refine ⟨?_, by first | exact pw_below_drewN HB.out _ | exact pw_below_drewN (pw_below_drewN HB.out _) _⟩
              have e_ : rootGood a0 = true := rootGood_end (by rw [← HS.out]; exact W1) (by rw [← HS.out]; exact W2) hp.out hall.out (.inr (by rw [← HS.out]; have := HBB.out; have := D1.out; omega)) (.inr (by rw [← HS.out]; have := HBB.out; have := D3.out; omega))
              rw [← H.out, e_]; rfl
            · have d3_ : decide (140 < bb) = false := decide_eq_false d3
              have D3 := Aside0.mk d3
              clear d3
              by_cases d4 : x14 = 0
              · have d4_ : (x14 == 0) = true := beq_iff_eq.mpr d4
                have D4 := Aside0.mk d4
                clear d4
                go_wp2
                go_ret
                refine ⟨?_, by first | exact pw_below_drewN HB.out _ | exact pw_below_drewN (pw_below_drewN HB.out _) _⟩
                have e_ : rootGood a0 = true := rootGood_end (by rw [← HS.out]; exact W1) (by rw [← HS.out]; exact W2) hp.out hall.out (.inr (by rw [← HS.out]; have := HBB.out; have := D1.out; omega)) (.inl (by rw [← HX14.out]; exact D4.out))
                rw [← H.out, e_]; rfl
              · have d4_ : (x14 == 0) = false := beq_eq_false_iff_ne.mpr d4
                have D4 := Aside0.mk d4
                clear d4
                go_wp2
                go_ret
                refine ⟨?_, by first | exact pw_below_drewN HB.out _ | exact pw_below_drewN (pw_below_drewN HB.out _) _⟩
                have e_ : rootGood a0 = false := rootGood_13 (by rw [← HX14.out]; exact D4.out) (by rw [← HS.out]; have := HBB.out; have := D3.out; omega)
                rw [← H.out, e_]; rfl
          · have d1_ : decide (12 < bb) = false := decide_eq_false d1
            have D1 := Aside0.mk d1
            clear d1
            by_cases d2 : x13 = 0
            · have d2_ : (x13 == 0) = true := beq_iff_eq.mpr d2
              have D2 := Aside0.mk d2
              clear d2
              by_cases d3 : 140 < bb
              · have d3_ : decide (140 < bb) = true := decide_eq_true d3
                have D3 := Aside0.mk d3
                clear d3
                go_wp2
                go_ret
                refine ⟨?_, by first | exact pw_below_drewN HB.out _ | exact pw_below_drewN (pw_below_drewN HB.out _) _⟩
                have e_ : rootGood a0 = true := rootGood_end (by rw [← HS.out]; exact W1) (by rw [← HS.out]; exact W2) hp.out hall.out (.inl (by rw [← HX13.out]; exact D2.out)) (.inr (by rw [← HS.out]; have := HBB.out; have := D3.out; omega))
                rw [← H.out, e_]; rfl
              · have d3_ : decide (140 < bb) = false := decide_eq_false d3
                have D3 := Aside0.mk d3
                clear d3
                by_cases d4 : x14 = 0
                · have d4_ : (x14 == 0) = true := beq_iff_eq.mpr d4
                  have D4 := Aside0.mk d4
                  clear d4
                  go_wp2
                  go_ret
                  refine ⟨?_, by first | exact pw_below_drewN HB.out _ | exact pw_below_drewN (pw_below_drewN HB.out _) _⟩
                  have e_ : rootGood a0 = true := rootGood_end (by rw [← HS.out]; exact W1) (by rw [← HS.out]; exact W2) hp.out hall.out (.inl (by rw [← HX13.out]; exact D2.out)) (.inl (by rw [← HX14.out]; exact D4.out))
                  rw [← H.out, e_]; rfl
                · have d4_ : (x14 == 0) = false := beq_eq_false_iff_ne.mpr d4
                  have D4 := Aside0.mk d4
                  clear d4
                  go_wp2
                  go_ret
                  refine ⟨?_, by first | exact pw_below_drewN HB.out _ | exact pw_below_drewN (pw_below_drewN HB.out _) _⟩
                  have e_ : rootGood a0 = false := rootGood_13 (by rw [← HX14.out]; exact D4.out) (by rw [← HS.out]; have := HBB.out; have := D3.out; omega)
                  rw [← H.out, e_]; rfl
            · have d2_ : (x13 == 0) = false := beq_eq_false_iff_ne.mpr d2
              have D2 := Aside0.mk d2
              clear d2
              go_wp2
              go_ret
              refine ⟨?_, by first | exact pw_below_drewN HB.out _ | exact pw_below_drewN (pw_below_drewN HB.out _) _⟩
              have e_ : rootGood a0 = false := rootGood_12 (by rw [← HX13.out]; exact D2.out) (by rw [← HS.out]; have := HBB.out; have := D1.out; omega)
              rw [← H.out, e_]; rfl
def impl_tableSize.f (a0 : Int) : Option (Bool) := if a0 ≥ 256 then (if (Int.tmod a0 128) = 0 then (some (decide (a0 ≤ 128128))) else (some false)) else (some false)
set_option maxHeartbeats 8000000 in
set_option maxRecDepth 100000 in
theorem impl_tableSize.calls (a0 : Int) (r : Bool) (w : World) (h : impl_tableSize.f a0 = some r) :
    Calls Tryd.prog 183 #[.int .i64 a0] w fun e w' => e = .returned (.bool r) ∧ Drawn0 w w' := by
  have H : (if a0 ≥ 256 then (if (Int.tmod a0 128) = 0 then (some (decide (a0 ≤ 128128))) else (some false)) else (some false)) = some r := h
  clear h
  by_cases c2 : a0 ≥ 256
  · rw [if_pos c2] at H
    have c2b0 : decide (256 ≤ a0) = true := decide_eq_true c2
    clear c2
    by_cases c3 : (Int.tmod a0 128) = 0
    · rw [if_pos c3] at H
      have c3b0 : ((Int.tmod a0 128) == 0) = true := beq_iff_eq.mpr c3
      have c3b1 : ((Int.tmod a0 128) != 0) = false := bne_eq_false_iff_eq.mpr c3
      clear c3
      obtain rfl := Option.some.inj H
      go_enter Tryd.func183, Tryd.ntmps183
      go_wp2
      go_ret
      exact ⟨by first | rfl | (simp; done) | (simp [*]; done), by repeat (first | exact Drawn0.refl _ | apply Drawn0.step)⟩
    · rw [if_neg c3] at H
      have c3b0 : ((Int.tmod a0 128) == 0) = false := beq_eq_false_iff_ne.mpr c3
      have c3b1 : ((Int.tmod a0 128) != 0) = true := bne_iff_ne.mpr c3
      obtain rfl := Option.some.inj H
      go_enter Tryd.func183, Tryd.ntmps183
      go_wp2
      go_ret
      exact ⟨by first | rfl | (simp; done) | (simp [*]; done), by repeat (first | exact Drawn0.refl _ | apply Drawn0.step)⟩
  · rw [if_neg c2] at H
    have c2b0 : decide (256 ≤ a0) = false := decide_eq_false c2
    clear c2
    obtain rfl := Option.some.inj H
    go_enter Tryd.func183, Tryd.ntmps183
    go_wp2
    go_ret
    exact ⟨by first | rfl | (simp; done) | (simp [*]; done), by repeat (first | exact Drawn0.refl _ | apply Drawn0.step)⟩
end Go.Proofs.YtknlpjoidjgciaaDoor.PFnExactSnapshots
