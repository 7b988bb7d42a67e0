-- Written by a program of this session (patch_print.py over the kit print)
import Derived.Test.YtknlpjoidjgciaaPFnExactLogRecordx0
import Derived.Test.YtknlpjoidjgciaaPFnExactLogRecordx9
namespace Go.Proofs.Ytknlpjoidjgciaa.PFnExactLogRecord
open Go.RowKit Go.Proofs.YtknlpjoidjgciaaW.PrintWords Go.Proofs.YtknlpjoidjgciaaW.PrintLast Go.Proofs.YtknlpjoidjgciaaW.PrintMore
attribute [local go_sem] max2_int min2_int max_two min_two max_three min_three max_four min_four   -- for this text's walks alone
set_option linter.unusedVariables false
set_option linter.unusedSimpArgs false

open Go.Proofs.YtknlpjoidjgciaaW Go.Proofs.YtknlpjoidjgciaaW.PrintHand Go.Proofs.YtknlpjoidjgciaaW.PrintHx
/-! ### slices_Concat_byte_byte: function 43 -/
def slices_Concat_byte_byte.f (l0 : List (List Int)) : Option (List Int) := if l0.length ≤ 1048576 ∧ sumL l0 < 1099511627776 then some l0.flatten else none
set_option maxHeartbeats 8000000 in
set_option maxRecDepth 100000 in
theorem slices_Concat_byte_byte.grow (N : Nat) (hN2 : N < 1099511627776) (w : World) : Calls Try.prog 46 #[.slice none 0 0, .int .i64 (N : Int)] w fun e w' => ∃ v, e = .returned v ∧ Kd.R (Kd.int .u8) 5 w' w.heap.size (fun _ => True) v [] ∧ Below w.heap.size w w' := by
  have info5_ : (Try.prog.info? 5).map (fun i => (i.zero, i.size, i.bytes)) = some (some (.int .u8 0), 1, 1) := by kernel_rfl
  by_cases hz : N = 0
  · subst hz
    go_enter Try.func46, Try.ntmps46
    go_wp2
    go_ret
    exact ⟨_, rfl, Kd.R_nil _ _ _ _ _, by repeat (first | exact Below.refl _ _ | apply pw_below_drewN)⟩
  · have hwN : wrap64 (N : Int) = (N : Int) := by unfold wrap64; omega
    have g3 : decide (0 < wrap64 (N : Int)) = true := decide_eq_true (by omega)
    have HWN := Aside0.mk hwN
    have hN3 := Aside0.mk hN2
    clear hz hN2 hwN
    go_enter Try.func46, Try.ntmps46
    go_wp2_with (first | (at_builtin; refine Kd.R_append_zeros (Kd.int .u8) (w0 := w) w.heap.size rfl (.tmp 20) (.tmp 21) 22 3 5 (.int .u8 0) 1 rfl Try.underlying22 Try.underlying3 info5_ rfl (by decide) (by omega) (.slice none 0 0) [] 0 (wrap64 (N : Int)) (fun _ => True) rfl rfl rfl (fun _ _ => trivial) (Kd.R_nil _ _ _ _ _) (by rw [HWN.out]; omega) (Below.refl _ _) (Nat.le_refl _) (by have := hN3.out; rw [HWN.out]; show (0 + (N : Int).toNat) * 1 ≤ _; omega) ?_; intro v1 w2 ho hb hg_ hn_; clear hg_ hn_; obtain ⟨xs1, hx1⟩ : ∃ xs : List Int, xs = ([] : List Int) ++ List.replicate (wrap64 (N : Int)).toNat 0 := ⟨_, rfl⟩; rw [← hx1] at ho; clear hx1; obtain ⟨A1, c1, rfl⟩ := Kd.R_slice ho; have O1 := Aside0.mk ho; have B1 := Aside0.mk hb; clear ho hb))
    go_ret
    exact ⟨_, rfl, by have h_ := Kd.R_take (m := 0) O1.out (by simp); simpa using h_, B1.out⟩
set_option maxHeartbeats 8000000 in
set_option maxRecDepth 100000 in
theorem slices_Concat_byte_byte.calls (A0 : Option Addr) (c0 : Nat) (l0 : List (List Int)) (r : List Int) (w : World) (hr0 : Kd.C (Kd.slice 5 (Kd.int .u8)) w A0 l0.length l0) (hc0 : l0.length ≤ c0) (h : slices_Concat_byte_byte.f l0 = some r) :
    Calls Try.prog 43 #[.slice A0 l0.length c0] w fun e w' => ∃ v0_ : Value, e = .returned (v0_) ∧ Kd.R (Kd.int .u8) 5 w' w.heap.size (fun _ => True) v0_ r ∧ Below w.heap.size w w' := by
  unfold slices_Concat_byte_byte.f at h
  by_cases hl : l0.length ≤ 1048576 ∧ sumL l0 < 1099511627776
  case neg => rw [if_neg hl] at h; cases h
  rw [if_pos hl] at h
  obtain rfl := Option.some.inj h
  have HR0 := Aside0.mk hr0
  have HL := Aside0.mk hl.1
  have HS := Aside0.mk hl.2
  clear hr0 hc0 h hl
  have info5_ : (Try.prog.info? 5).map (fun i => (i.zero, i.size, i.bytes)) = some (some (.int .u8 0), 1, 1) := by kernel_rfl
  go_enter Try.func43, Try.ntmps43
  go_wp2
  go_loopw [3, 5, 11] (fun v3 v5 v11 wr => ∃ (j : Nat) (u : Value), u = v5 ∧ v11 = .int .i64 (j : Int) ∧ v3 = .int .i64 ((sumL (l0.take j) : Nat) : Int) ∧ Aside0 (j ≤ l0.length) ∧ w = wr) (fun _ _ v11 _ => l0.length - (intOf v11).toNat)
  case atStart => exact ⟨0, _, rfl, rfl, rfl, ⟨Nat.zero_le _⟩, by first | rfl | trivial⟩
  case round =>
    obtain ⟨j, v5, rfl, rfl, rfl, hj, rfl⟩ := hrel
    by_cases c9 : j < l0.length
    · have c9b0 : decide ((j : Int) < (l0.length : Int)) = true := decide_eq_true (by omega)
      have c9b1 : decide (j < l0.length) = true := decide_eq_true c9
      have p9 : 0 ≤ (j : Int) := by omega
      have q9 : (j : Int) < (l0.length : Int) := by omega
      obtain ⟨ad9, A9, c9_, e9, hx9, _, _⟩ := at_L1 HR0.out (j : Int) p9 q9
      cases e9
      rw [Int.toNat_natCast] at hx9
      replace p9 := eq_true p9
      replace q9 := eq_true q9
      have q9n : (j < l0.length) = True := eq_true c9
      obtain ⟨x, hx⟩ : ∃ x, x = rd_L1 l0 (j : Int) := ⟨_, rfl⟩
      rw [← hx] at hx9
      obtain ⟨S, hS⟩ : ∃ S, S = sumL (l0.take j) := ⟨_, rfl⟩
      have hx2 : x = l0[j] := by rw [hx]; simp [rd_L1, c9]
      have hT : sumL (l0.take (j + 1)) = S + x.length := by rw [hS, hx2, List.take_succ_eq_append_getElem c9, sumL_append]; simp [sumL]
      have hT2 : sumL (l0.take (j + 1)) ≤ sumL l0 := by
        conv => rhs; rw [← List.take_append_drop (j + 1) l0]
        rw [sumL_append]
        omega
      have hw : wrap64 ((S : Int) + (x.length : Int)) = ((S + x.length : Nat) : Int) := by
        have := HS.out
        unfold wrap64
        omega
      have cn : decide (wrap64 ((S : Int) + (x.length : Int)) < 0) = false := decide_eq_false (by rw [hw]; omega)
      rw [← hS]
      have C9 := Aside0.mk c9
      have HW := Aside0.mk hw
      have HT := Aside0.mk hT
      clear hx hS hx2 hT hT2 hw c9
      go_wp2
      go_roundw
      case rel =>
        exact ⟨j + 1, _, rfl, by rw [show wrap64 ((j : Int) + 1) = ((j + 1 : Nat) : Int) by (have := HL.out; have := C9.out; unfold wrap64; omega)], by rw [HW.out, HT.out], ⟨by have := C9.out; omega⟩, by first | rfl | trivial⟩
      case measure =>
        rw [show wrap64 ((j : Int) + 1) = ((j + 1 : Nat) : Int) by (have := HL.out; have := C9.out; unfold wrap64; omega)]
        simp only [intOf, Int.toNat_natCast]
        have := C9.out
        omega
    · obtain rfl : j = l0.length := by have := hj.out; omega
      have c9b0 : decide ((l0.length : Int) < (l0.length : Int)) = false := decide_eq_false (by omega)
      have c9b1 : decide (l0.length < l0.length) = false := decide_eq_false (by omega)
      rw [List.take_length]
      obtain ⟨N, hN⟩ : ∃ N, N = sumL l0 := ⟨_, rfl⟩
      rw [← hN]
      have HN := Aside0.mk hN
      have hN2 : N < 1099511627776 := by rw [hN]; exact HS.out
      have g1 : decide ((N : Int) < 0) = false := decide_eq_false (by omega)
      have g2 : wrap64 ((N : Int) - wrap64 (0 - 0)) = (N : Int) := by unfold wrap64; omega
      have HB0 := Aside0.mk (Below.refl w.heap.size w)
      clear hN c9
      -- what Grow hands back: an empty row with room for N
      have HG := slices_Concat_byte_byte.grow N hN2 w
      go_wp2_with (first | ((with_reducible refine gate_dst (N := 24) rfl ?_); refine goesL_ (some 24) rfl rfl Try.func46 (by kernel_rfl) rfl #[.slice none 0 0, .int .i64 (N : Int)] rfl (by (try simp only [List.map_toArray, List.map_cons, List.map_nil]); first | done | rfl) ?_; refine HG.mono ?_; rintro e_ w1 ⟨v6, rfl, R_, b_⟩; refine ⟨_, rfl, ?_⟩; have OO := Aside0.mk R_; have HB1 := Aside0.mk b_; clear R_ b_ HB0))
      clear HG
      (try simp only [Act.put, List.setIfInBounds_toArray, List.set_cons_succ, List.set_cons_zero])
      go_loopw [6, 8, 27] (fun v6 v8 v27 wr => ∃ (j : Nat) (u u2 : Value), u = v6 ∧ u2 = v8 ∧ v27 = .int .i64 (j : Int) ∧ Aside0 (j ≤ l0.length) ∧ Aside0 (Kd.R (Kd.int .u8) 5 wr w.heap.size (fun _ => True) v6 (l0.take j).flatten) ∧ Aside0 (Below w.heap.size w wr)) (fun _ _ v27 _ => l0.length - (intOf v27).toNat)
      case atStart => exact ⟨0, _, _, rfl, rfl, rfl, ⟨Nat.zero_le _⟩, ⟨by rw [List.take_zero, List.flatten_nil]; exact OO.out⟩, HB1⟩
      case round =>
        clear OO HB1
        obtain ⟨j, v6, v8, rfl, rfl, rfl, hj, OO, HB⟩ := hrel
        by_cases c9 : j < l0.length
        · have c9b0 : decide ((j : Int) < (l0.length : Int)) = true := decide_eq_true (by omega)
          have c9b1 : decide (j < l0.length) = true := decide_eq_true c9
          have p9 : 0 ≤ (j : Int) := by omega
          have q9 : (j : Int) < (l0.length : Int) := by omega
          obtain ⟨ad9, A9, c9_, e9, hx9, hl9, hC9⟩ := at_L1 (Kd.C_below HR0.out HB.out) (j : Int) p9 q9
          cases e9
          rw [Int.toNat_natCast] at hx9
          replace p9 := eq_true p9
          replace q9 := eq_true q9
          have q9n : (j < l0.length) = True := eq_true c9
          have hx2 : rd_L1 l0 (j : Int) = l0[j] := by simp [rd_L1, c9]
          obtain ⟨x, hx⟩ : ∃ x, x = rd_L1 l0 (j : Int) := ⟨_, rfl⟩
          rw [← hx] at hx9 hl9 hC9 hx2
          obtain ⟨ys, hys⟩ : ∃ ys, ys = (l0.take j).flatten := ⟨_, rfl⟩
          have hnext : ys ++ x = (l0.take (j + 1)).flatten := by rw [hys, hx2, List.take_succ_eq_append_getElem c9, List.flatten_append, List.flatten_singleton]
          have hlen : ys.length + x.length < 1099511627776 := by
            have h1 := HS.out
            have h2 : sumL (l0.take (j + 1)) ≤ sumL l0 := by
              conv => rhs; rw [← List.take_append_drop (j + 1) l0]
              rw [sumL_append]
              omega
            rw [← List.length_append, hnext, ← sumL_flatten]
            omega
          have HC9 := Aside0.mk hC9
          have oo := OO.out
          rw [← hys] at oo
          have OO2 := Aside0.mk oo
          have HNX := Aside0.mk hnext
          have HLN := Aside0.mk hlen
          have C9 := Aside0.mk c9
          clear hx hx2 hys hnext hlen hl9 hC9 c9 OO oo
          go_wp2_with (first | ((with_reducible refine gate_builtin (b := .append) (xs := #[.tmp 31, .tmp 32]) rfl ?_); at_builtin; refine Kd.R_append_rows (Kd.int .u8) (w0 := w) w.heap.size rfl (.tmp 31) (.tmp 32) 22 5 (.int .u8 0) 1 rfl Try.underlying22 info5_ rfl (by decide) (by omega) v6 ys x _ _ _ (fun _ => True) (fun _ => False) rfl rfl OO2.out HC9.out (fun _ _ h => h) (fun _ h => h.elim) (fun _ _ => trivial) HB.out HB.out.size (by have := HLN.out; omega) ?_; intro v33 w8 ho hb hg hat; have O33 := Aside0.mk ho; have HB8 := Aside0.mk hb; clear ho hb hg hat OO2 HB HC9))
          go_roundw
          case rel =>
            refine ⟨j + 1, _, _, rfl, rfl, by rw [show wrap64 ((j : Int) + 1) = ((j + 1 : Nat) : Int) by (have := HL.out; have := C9.out; unfold wrap64; omega)], ⟨by have := C9.out; omega⟩, ⟨?_⟩, HB8⟩
            rw [← HNX.out]
            exact O33.out
          case measure =>
            rw [show wrap64 ((j : Int) + 1) = ((j + 1 : Nat) : Int) by (have := HL.out; have := C9.out; unfold wrap64; omega)]
            simp only [intOf, Int.toNat_natCast]
            have := C9.out
            omega
        · obtain rfl : j = l0.length := by have := hj.out; omega
          have c9b0 : decide ((l0.length : Int) < (l0.length : Int)) = false := decide_eq_false (by omega)
          have c9b1 : decide (l0.length < l0.length) = false := decide_eq_false (by omega)
          clear c9
          go_wp2
          go_ret
          have ho := OO.out
          rw [List.take_length] at ho
          exact ⟨_, rfl, ho, HB.out⟩

/-! ### impl_joined: function 39 -/
def impl_joined.f (l0 : List (List Int)) : Option (List Int) := (slices_Concat_byte_byte.f l0).bind fun t145 => (some t145)
set_option maxHeartbeats 8000000 in
set_option maxRecDepth 100000 in
theorem impl_joined.calls (A0 : Option Addr) (c0 : Nat) (l0 : List (List Int)) (r : List Int) (w : World) (hr0 : Kd.C (Kd.slice 5 (Kd.int .u8)) w A0 l0.length l0) (hc0 : l0.length ≤ c0) (h : impl_joined.f l0 = some r) :
    Calls Try.prog 39 #[.slice A0 l0.length c0] w fun e w' => ∃ v0_ : Value, e = .returned (v0_) ∧ Kd.R (Kd.int .u8) 5 w' w.heap.size (fun _ => True) v0_ r ∧ Below w.heap.size w w' := by
  have HR0 := Aside0.mk hr0
  have HC0 := Aside0.mk hc0
  clear hr0 hc0
  have HB := Aside0.mk (Below.refl w.heap.size w)
  have H : ((slices_Concat_byte_byte.f l0).bind fun t145 => (some t145)) = some r := h
  clear h
  replace H := Option.bind_eq_some_iff.mp H
  obtain ⟨t145, A20, H⟩ := H
  replace H : (some t145) = some r := H
  have A2 := Aside0.mk A20
  clear A20
  obtain rfl := Option.some.inj H
  go_enter Try.func39, Try.ntmps39
  go_wp2_with (first | ((with_reducible refine gate_callee (f := 43) rfl ?_); refine goesL_ (some 4) rfl rfl Try.func43 (by kernel_rfl) rfl #[.slice A0 l0.length c0] rfl (by (try simp only [List.map_toArray, List.map_cons, List.map_nil]); first | done | rfl | (simp only [List.length_drop, List.length_take]; rfl)) ?_; (with_reducible refine (slices_Concat_byte_byte.calls _ _ l0 t145 _ ?side1 ?side2 A2.out).mono ?_); (case side1 => repeat (first | exact HR0.out | (with_reducible refine Kd.C_alloc ?_ _) | (with_reducible refine Kd.C_drewN ?_ _) | (with_reducible refine Kd.C_drew ?_))); (case side2 => exact HC0.out); rintro e w3 ⟨v146, rfl, ho0, hb⟩; refine ⟨_, rfl, ?_⟩; have n0_ := Aside0.mk (Kd.R_lower ho0 (below_size (by repeat (first | (with_reducible first | exact HB.out | apply below_alloc | apply pw_below_drewN | apply below_drew1) | exact HB.out)))); have n1_ := Aside0.mk (below_step (by repeat (first | (with_reducible first | exact HB.out | apply below_alloc | apply pw_below_drewN | apply below_drew1) | exact HB.out)) hb); clear HB; have HO147 := n0_; have HB := n1_; clear n0_ n1_; (try clear hb); (try clear hb2); (try clear hk); (try clear hi); (try clear ho0)))
  go_ret
  exact ⟨_, by first | rfl | (simp [errW_none, errW_some] <;> rfl) | (simp [*, errW_none, errW_some] <;> rfl), by (with_reducible repeat (first | apply Kd.R_alloc | apply Kd.R_drewN | apply Kd.R_drew)); exact HO147.out, by repeat (first | (with_reducible first | exact HB.out | apply below_alloc | apply pw_below_drewN | apply below_drew1) | exact HB.out)⟩

end Go.Proofs.Ytknlpjoidjgciaa.PFnExactLogRecord
