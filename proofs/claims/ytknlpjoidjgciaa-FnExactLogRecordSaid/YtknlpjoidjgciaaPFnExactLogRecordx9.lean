-- Written by a program of this session (patch_print.py over the kit print)
import Derived.Test.YtknlpjoidjgciaaPFnExactLogRecordx0
import Derived.Test.YtknlpjoidjgciaaPFnExactLogRecordx6
import Derived.Test.YtknlpjoidjgciaaPFnExactLogRecordx7
import Derived.Test.YtknlpjoidjgciaaPFnExactLogRecordx8
namespace Go.Proofs.Ytknlpjoidjgciaa.PFnExactLogRecord
open Go.RowKit Go.Proofs.YtknlpjoidjgciaaW.PrintWords Go.Proofs.YtknlpjoidjgciaaW.PrintLast Go.Proofs.YtknlpjoidjgciaaW.PrintMore
attribute [local go_sem] max2_int min2_int max_two min_two max_three min_three max_four min_four   -- for this text's walks alone
set_option linter.unusedVariables false
set_option linter.unusedSimpArgs false

open Go.Proofs.YtknlpjoidjgciaaW Go.Proofs.YtknlpjoidjgciaaW.PrintHand Go.Proofs.YtknlpjoidjgciaaW.PrintHx
/-! ### spec_EncodeOp: function 18 -/
open Go.Proofs.YtknlpjoidjgciaaW.PrintLe Go.Proofs.YtknlpjoidjgciaaW.PrintOp Go.Proofs.YtknlpjoidjgciaaW.PrintGrow
theorem l02Put_l0 (n : Nat) (hn : n ≤ 4096) : ∀ (d i k : Nat) (v : Int) (x5 : List Int), i + d = n → d < k → 0 ≤ v → v ≤ 9223372036854775807 → x5.length ≤ 4096 + i → spec_l02Put.l0 k v (n : Int) x5 (i : Int) = some (x5 ++ leB v d)
  | 0, i, k, v, x5, h1, h2, h3, h4, h5 => by
    obtain ⟨k, rfl⟩ := sucK h2
    simp only [spec_l02Put.l0]
    rw [if_neg (by omega)]
    simp [leB]
  | d + 1, i, k, v, x5, h1, h2, h3, h4, h5 => by
    obtain ⟨k, rfl⟩ := sucK h2
    simp only [spec_l02Put.l0]
    rw [if_pos (by omega), if_pos (by omega), w64n (by omega), Int.tdiv_eq_ediv_of_nonneg h3, Int.tmod_eq_emod_of_nonneg h3, w64 (by omega) (by omega), l02Put_l0 n hn d (i + 1) k _ _ (by omega) (by omega) (by omega) (by omega) (by simp; omega), List.append_assoc]
    simp only [leB, List.cons_append, List.nil_append]
    rw [Int.emod_emod_of_dvd _ (by decide)]
theorem l02Put_f (v : Int) (n k : Nat) (hn : n ≤ 4096) (h0 : 0 ≤ v) (h1 : v ≤ 9223372036854775807) (hk : n < k) : spec_l02Put.f k v (n : Int) = some (leB v n) := by
  unfold spec_l02Put.f
  have h := l02Put_l0 n hn n 0 k v [] (by omega) hk h0 h1 (by simp)
  rw [List.nil_append] at h
  exact h
theorem l11Signed_l0 : ∀ (d i k : Nat) (v : Int) (x : List Int), i + d = 8 → d < k → 0 ≤ v → v < 18446744073709551616 → x.length ≤ i → spec_l11Signed.l0 k v x (i : Int) = some (x ++ leB v d)
  | 0, i, k, v, x, h1, h2, h3, h4, h5 => by
    obtain ⟨k, rfl⟩ := sucK h2
    simp only [spec_l11Signed.l0]
    rw [if_neg (by omega)]
    simp [leB]
  | d + 1, i, k, v, x, h1, h2, h3, h4, h5 => by
    obtain ⟨k, rfl⟩ := sucK h2
    simp only [spec_l11Signed.l0]
    rw [if_pos (by omega), if_pos (by omega), w64n (by omega), Int.tdiv_eq_ediv_of_nonneg h3, Int.tmod_eq_emod_of_nonneg h3, show IntKind.u64.wrap (v / 256) = v / 256 from wraps_u64 _ (by omega) (by omega), l11Signed_l0 d (i + 1) k _ _ (by omega) (by omega) (by omega) (by omega) (by simp; omega), List.append_assoc]
    simp only [leB, List.cons_append, List.nil_append]
    rw [Int.emod_emod_of_dvd _ (by decide)]
theorem u64_mod (v : Int) : IntKind.u64.wrap v = v % 18446744073709551616 := by
  simp [IntKind.wrap, IntKind.bits, IntKind.signed]
theorem l11Signed_f (v : Int) (k : Nat) (hk : 8 < k) : spec_l11Signed.f k v = some (leB v 8) := by
  unfold spec_l11Signed.f
  have h := l11Signed_l0 8 0 k (IntKind.u64.wrap v) [] (by omega) hk (by rw [u64_mod]; omega) (by rw [u64_mod]; omega) (by simp)
  rw [List.nil_append, u64_mod, show (18446744073709551616 : Int) = 256 ^ 8 by decide, leB_mod] at h
  rw [← h, u64_mod]
  rfl
def sumL : List (List Int) → Nat
  | [] => 0
  | x :: r => x.length + sumL r
theorem sumL_append (a b : List (List Int)) : sumL (a ++ b) = sumL a + sumL b := by
  induction a with
  | nil => simp [sumL]
  | cons x a ih => simp [sumL, ih]; omega
theorem sumL_flatten (a : List (List Int)) : sumL a = a.flatten.length := by
  induction a with
  | nil => simp [sumL]
  | cons x a ih => simp [sumL, ih]
theorem l02Join_l0 (xs : List (List Int)) (hx : xs.length ≤ 1048576) : ∀ (d i k : Nat) (out : List Int), i + d = xs.length → d < k → out.length + sumL (xs.drop i) < 140737488355328 → spec_l02Join.l0 k out xs (xs.length : Int) (i : Int) = some (out ++ (xs.drop i).flatten)
  | 0, i, k, out, h1, h2, h3 => by
    obtain ⟨k, rfl⟩ := sucK h2
    simp only [spec_l02Join.l0]
    rw [if_neg (by omega), List.drop_eq_nil_of_le (by omega)]
    simp
  | d + 1, i, k, out, h1, h2, h3 => by
    obtain ⟨k, rfl⟩ := sucK h2
    simp only [spec_l02Join.l0]
    have hi : i < xs.length := by omega
    have hr : rd_L1 xs (i : Int) = xs[i] := by simp [rd_L1, hi]
    have hd := List.drop_eq_getElem_cons hi
    rw [hd, sumL] at h3
    rw [if_pos (by omega), if_pos (by omega), if_pos (by omega), hr, if_pos (by omega), w64n (by omega), l02Join_l0 xs hx d (i + 1) k _ (by omega) (by omega) (by rw [List.length_append]; omega), List.append_assoc]
    conv => rhs; rw [hd, List.flatten_cons]
theorem l02Join_f (xs : List (List Int)) (k : Nat) (hx : xs.length ≤ 1048576) (hk : xs.length < k) (hl : sumL xs < 140737488355328) : spec_l02Join.f k xs = some xs.flatten := by
  unfold spec_l02Join.f
  have h := l02Join_l0 xs hx xs.length 0 k [] (by omega) hk (by simpa using hl)
  simpa using h

def spec_EncodeOp.f (a0_0 a0_1 a0_2 a0_3 a0_4 : Int) (a0_5 a0_6 : ByteArray) (l0_7 : List Int) : Option (List Int × Int) := some (if opGood a0_0 a0_3 a0_4 a0_5 a0_6 l0_7 = true then (opBytes a0_0 a0_1 a0_2 a0_3 a0_4 a0_5 a0_6 l0_7, 0) else ([], 7))
theorem spec_EncodeOp.win (a b c : Int) : spec_l02Within.f a b c = some (decide (b ≤ a ∧ a ≤ c)) := by
  unfold spec_l02Within.f
  by_cases h : b ≤ a <;> simp [h]
set_option maxHeartbeats 8000000 in
set_option maxRecDepth 100000 in
theorem spec_EncodeOp.calls (a0_0 : Int) (a0_1 : Int) (a0_2 : Int) (a0_3 : Int) (a0_4 : Int) (a0_5 : ByteArray) (a0_6 : ByteArray) (A0_7 : Option Addr) (c0_7 : Nat) (l0_7 : List Int) (r1 : List Int) (r2 : Int) (w : World) (hr0_7 : Kd.C (Kd.int .u8) w A0_7 l0_7.length l0_7) (hc0_7 : l0_7.length ≤ c0_7) (h : spec_EncodeOp.f a0_0 a0_1 a0_2 a0_3 a0_4 a0_5 a0_6 l0_7 = some (r1, r2)) :
    Calls Try.prog 18 #[.agg #[.int .i64 a0_0, .int .i64 a0_1, .int .i64 a0_2, .int .i64 a0_3, .int .i64 a0_4, .string a0_5, .string a0_6, .slice A0_7 l0_7.length c0_7]] w fun e w' => ∃ v0_ : Value, e = .returned (.tuple #[v0_, .int .i64 r2]) ∧ Kd.R (Kd.int .u8) 5 w' w.heap.size (fun _ => True) v0_ r1 ∧ Below w.heap.size w w' := by
  unfold spec_EncodeOp.f at h
  have HR7 := Aside0.mk hr0_7
  have HC7 := Aside0.mk hc0_7
  clear hr0_7 hc0_7
  have HB0 : Aside0 (Below w.heap.size w w) := ⟨Below.refl _ _⟩
  obtain ⟨s0, Sz0⟩ : ∃ s0, Aside0 (w.heap.size = s0) := ⟨_, ⟨rfl⟩⟩
  have hw0 : w.heap.size ≤ s0 := Nat.le_of_eq Sz0.out
  have hw1 : s0 ≤ w.heap.size := Nat.le_of_eq Sz0.out.symm
  by_cases c0 : 0 ≤ a0_0 ∧ a0_0 ≤ 255
  case neg =>
    rw [if_neg (fun hg => by have h_ := opGood_get hg; simp only [c0, false_and, and_false] at h_)] at h
    simp only [Option.some.injEq, Prod.mk.injEq] at h
    obtain ⟨rfl, rfl⟩ := h
    have W0 := Aside0.mk (show spec_l02Within.f a0_0 0 255 = some false by rw [spec_EncodeOp.win, decide_eq_false c0])
    clear c0
    go_enter Try.func18, Try.ntmps18
    go_wp2_with (first | ((with_reducible refine gate_dst (N := 1) rfl ?_); refine hx_box rfl 1 rfl 43 (.tmp 0) rfl Sz0 (.agg #[.int .i64 a0_0, .int .i64 a0_1, .int .i64 a0_2, .int .i64 a0_3, .int .i64 a0_4, .string a0_5, .string a0_6, .slice A0_7 l0_7.length c0_7]) #[.int .i64 a0_0, .int .i64 a0_1, .int .i64 a0_2, .int .i64 a0_3, .int .i64 a0_4, .string a0_5, .string a0_6, .slice A0_7 l0_7.length c0_7] rfl rfl ?_; intro w1 s1 L1 Sz1 b1 g_; have H_1 := Aside0.mk g_; have HB1 := Aside0.mk (below_then HB0.out HB0.out.size b1); clear g_ HB0 b1; have k0_1 : w1.cell? ⟨s0, 0, none⟩ = some (.int .i64 a0_0) := blk_cell H_1.out 0; have k3_1 : w1.cell? ⟨s0, 3, none⟩ = some (.int .i64 a0_3) := blk_cell H_1.out 3; have k4_1 : w1.cell? ⟨s0, 4, none⟩ = some (.int .i64 a0_4) := blk_cell H_1.out 4; have k5_1 : w1.cell? ⟨s0, 5, none⟩ = some (.string a0_5) := blk_cell H_1.out 5; have k6_1 : w1.cell? ⟨s0, 6, none⟩ = some (.string a0_6) := blk_cell H_1.out 6; have k7_1 : w1.cell? ⟨s0, 7, none⟩ = some (.slice A0_7 l0_7.length c0_7) := blk_cell H_1.out 7) | (go_at_call 35; (with_reducible refine (spec_l02Within.calls a0_0 0 255 false _ W0.out).mono ?_); rintro e_ w2 ⟨rfl, d_⟩; have b_ := kept_drawn d_; have H_2 := Aside0.mk (blk_below H_1.out b_); have HB2 := Aside0.mk (below_then HB1.out HB1.out.size b_); clear b_ d_ H_1 HB1 k0_1 k3_1 k4_1 k5_1 k6_1 k7_1; have k0_2 : w2.cell? ⟨s0, 0, none⟩ = some (.int .i64 a0_0) := blk_cell H_2.out 0; have k3_2 : w2.cell? ⟨s0, 3, none⟩ = some (.int .i64 a0_3) := blk_cell H_2.out 3; have k4_2 : w2.cell? ⟨s0, 4, none⟩ = some (.int .i64 a0_4) := blk_cell H_2.out 4; have k5_2 : w2.cell? ⟨s0, 5, none⟩ = some (.string a0_5) := blk_cell H_2.out 5; have k6_2 : w2.cell? ⟨s0, 6, none⟩ = some (.string a0_6) := blk_cell H_2.out 6; have k7_2 : w2.cell? ⟨s0, 7, none⟩ = some (.slice A0_7 l0_7.length c0_7) := blk_cell H_2.out 7))
    go_ret2
    exact ⟨_, rfl, Kd.R_nil _ _ _ _ _, HB2.out⟩
  have W0 := Aside0.mk (show spec_l02Within.f a0_0 0 255 = some true by rw [spec_EncodeOp.win, decide_eq_true c0])
  by_cases c1 : 0 ≤ a0_3 ∧ a0_3 ≤ 65535
  case neg =>
    rw [if_neg (fun hg => by have h_ := opGood_get hg; simp only [c1, false_and, and_false] at h_)] at h
    simp only [Option.some.injEq, Prod.mk.injEq] at h
    obtain ⟨rfl, rfl⟩ := h
    have W1 := Aside0.mk (show spec_l02Within.f a0_3 0 65535 = some false by rw [spec_EncodeOp.win, decide_eq_false c1])
    clear c0 c1
    go_enter Try.func18, Try.ntmps18
    go_wp2_with (first | ((with_reducible refine gate_dst (N := 1) rfl ?_); refine hx_box rfl 1 rfl 43 (.tmp 0) rfl Sz0 (.agg #[.int .i64 a0_0, .int .i64 a0_1, .int .i64 a0_2, .int .i64 a0_3, .int .i64 a0_4, .string a0_5, .string a0_6, .slice A0_7 l0_7.length c0_7]) #[.int .i64 a0_0, .int .i64 a0_1, .int .i64 a0_2, .int .i64 a0_3, .int .i64 a0_4, .string a0_5, .string a0_6, .slice A0_7 l0_7.length c0_7] rfl rfl ?_; intro w1 s1 L1 Sz1 b1 g_; have H_1 := Aside0.mk g_; have HB1 := Aside0.mk (below_then HB0.out HB0.out.size b1); clear g_ HB0 b1; have k0_1 : w1.cell? ⟨s0, 0, none⟩ = some (.int .i64 a0_0) := blk_cell H_1.out 0; have k3_1 : w1.cell? ⟨s0, 3, none⟩ = some (.int .i64 a0_3) := blk_cell H_1.out 3; have k4_1 : w1.cell? ⟨s0, 4, none⟩ = some (.int .i64 a0_4) := blk_cell H_1.out 4; have k5_1 : w1.cell? ⟨s0, 5, none⟩ = some (.string a0_5) := blk_cell H_1.out 5; have k6_1 : w1.cell? ⟨s0, 6, none⟩ = some (.string a0_6) := blk_cell H_1.out 6; have k7_1 : w1.cell? ⟨s0, 7, none⟩ = some (.slice A0_7 l0_7.length c0_7) := blk_cell H_1.out 7) | (go_at_call 35; (with_reducible refine (spec_l02Within.calls a0_0 0 255 true _ W0.out).mono ?_); rintro e_ w2 ⟨rfl, d_⟩; have b_ := kept_drawn d_; have H_2 := Aside0.mk (blk_below H_1.out b_); have HB2 := Aside0.mk (below_then HB1.out HB1.out.size b_); clear b_ d_ H_1 HB1 k0_1 k3_1 k4_1 k5_1 k6_1 k7_1; have k0_2 : w2.cell? ⟨s0, 0, none⟩ = some (.int .i64 a0_0) := blk_cell H_2.out 0; have k3_2 : w2.cell? ⟨s0, 3, none⟩ = some (.int .i64 a0_3) := blk_cell H_2.out 3; have k4_2 : w2.cell? ⟨s0, 4, none⟩ = some (.int .i64 a0_4) := blk_cell H_2.out 4; have k5_2 : w2.cell? ⟨s0, 5, none⟩ = some (.string a0_5) := blk_cell H_2.out 5; have k6_2 : w2.cell? ⟨s0, 6, none⟩ = some (.string a0_6) := blk_cell H_2.out 6; have k7_2 : w2.cell? ⟨s0, 7, none⟩ = some (.slice A0_7 l0_7.length c0_7) := blk_cell H_2.out 7) | (go_at_call 35; (with_reducible refine (spec_l02Within.calls a0_3 0 65535 false _ W1.out).mono ?_); rintro e_ w3 ⟨rfl, d_⟩; have b_ := kept_drawn d_; have H_3 := Aside0.mk (blk_below H_2.out b_); have HB3 := Aside0.mk (below_then HB2.out HB2.out.size b_); clear b_ d_ H_2 HB2 k0_2 k3_2 k4_2 k5_2 k6_2 k7_2; have k0_3 : w3.cell? ⟨s0, 0, none⟩ = some (.int .i64 a0_0) := blk_cell H_3.out 0; have k3_3 : w3.cell? ⟨s0, 3, none⟩ = some (.int .i64 a0_3) := blk_cell H_3.out 3; have k4_3 : w3.cell? ⟨s0, 4, none⟩ = some (.int .i64 a0_4) := blk_cell H_3.out 4; have k5_3 : w3.cell? ⟨s0, 5, none⟩ = some (.string a0_5) := blk_cell H_3.out 5; have k6_3 : w3.cell? ⟨s0, 6, none⟩ = some (.string a0_6) := blk_cell H_3.out 6; have k7_3 : w3.cell? ⟨s0, 7, none⟩ = some (.slice A0_7 l0_7.length c0_7) := blk_cell H_3.out 7))
    go_ret2
    exact ⟨_, rfl, Kd.R_nil _ _ _ _ _, HB3.out⟩
  have W1 := Aside0.mk (show spec_l02Within.f a0_3 0 65535 = some true by rw [spec_EncodeOp.win, decide_eq_true c1])
  by_cases c2 : 0 ≤ a0_4 ∧ a0_4 ≤ 65535
  case neg =>
    rw [if_neg (fun hg => by have h_ := opGood_get hg; simp only [c2, false_and, and_false] at h_)] at h
    simp only [Option.some.injEq, Prod.mk.injEq] at h
    obtain ⟨rfl, rfl⟩ := h
    have W2 := Aside0.mk (show spec_l02Within.f a0_4 0 65535 = some false by rw [spec_EncodeOp.win, decide_eq_false c2])
    clear c0 c1 c2
    go_enter Try.func18, Try.ntmps18
    go_wp2_with (first | ((with_reducible refine gate_dst (N := 1) rfl ?_); refine hx_box rfl 1 rfl 43 (.tmp 0) rfl Sz0 (.agg #[.int .i64 a0_0, .int .i64 a0_1, .int .i64 a0_2, .int .i64 a0_3, .int .i64 a0_4, .string a0_5, .string a0_6, .slice A0_7 l0_7.length c0_7]) #[.int .i64 a0_0, .int .i64 a0_1, .int .i64 a0_2, .int .i64 a0_3, .int .i64 a0_4, .string a0_5, .string a0_6, .slice A0_7 l0_7.length c0_7] rfl rfl ?_; intro w1 s1 L1 Sz1 b1 g_; have H_1 := Aside0.mk g_; have HB1 := Aside0.mk (below_then HB0.out HB0.out.size b1); clear g_ HB0 b1; have k0_1 : w1.cell? ⟨s0, 0, none⟩ = some (.int .i64 a0_0) := blk_cell H_1.out 0; have k3_1 : w1.cell? ⟨s0, 3, none⟩ = some (.int .i64 a0_3) := blk_cell H_1.out 3; have k4_1 : w1.cell? ⟨s0, 4, none⟩ = some (.int .i64 a0_4) := blk_cell H_1.out 4; have k5_1 : w1.cell? ⟨s0, 5, none⟩ = some (.string a0_5) := blk_cell H_1.out 5; have k6_1 : w1.cell? ⟨s0, 6, none⟩ = some (.string a0_6) := blk_cell H_1.out 6; have k7_1 : w1.cell? ⟨s0, 7, none⟩ = some (.slice A0_7 l0_7.length c0_7) := blk_cell H_1.out 7) | (go_at_call 35; (with_reducible refine (spec_l02Within.calls a0_0 0 255 true _ W0.out).mono ?_); rintro e_ w2 ⟨rfl, d_⟩; have b_ := kept_drawn d_; have H_2 := Aside0.mk (blk_below H_1.out b_); have HB2 := Aside0.mk (below_then HB1.out HB1.out.size b_); clear b_ d_ H_1 HB1 k0_1 k3_1 k4_1 k5_1 k6_1 k7_1; have k0_2 : w2.cell? ⟨s0, 0, none⟩ = some (.int .i64 a0_0) := blk_cell H_2.out 0; have k3_2 : w2.cell? ⟨s0, 3, none⟩ = some (.int .i64 a0_3) := blk_cell H_2.out 3; have k4_2 : w2.cell? ⟨s0, 4, none⟩ = some (.int .i64 a0_4) := blk_cell H_2.out 4; have k5_2 : w2.cell? ⟨s0, 5, none⟩ = some (.string a0_5) := blk_cell H_2.out 5; have k6_2 : w2.cell? ⟨s0, 6, none⟩ = some (.string a0_6) := blk_cell H_2.out 6; have k7_2 : w2.cell? ⟨s0, 7, none⟩ = some (.slice A0_7 l0_7.length c0_7) := blk_cell H_2.out 7) | (go_at_call 35; (with_reducible refine (spec_l02Within.calls a0_3 0 65535 true _ W1.out).mono ?_); rintro e_ w3 ⟨rfl, d_⟩; have b_ := kept_drawn d_; have H_3 := Aside0.mk (blk_below H_2.out b_); have HB3 := Aside0.mk (below_then HB2.out HB2.out.size b_); clear b_ d_ H_2 HB2 k0_2 k3_2 k4_2 k5_2 k6_2 k7_2; have k0_3 : w3.cell? ⟨s0, 0, none⟩ = some (.int .i64 a0_0) := blk_cell H_3.out 0; have k3_3 : w3.cell? ⟨s0, 3, none⟩ = some (.int .i64 a0_3) := blk_cell H_3.out 3; have k4_3 : w3.cell? ⟨s0, 4, none⟩ = some (.int .i64 a0_4) := blk_cell H_3.out 4; have k5_3 : w3.cell? ⟨s0, 5, none⟩ = some (.string a0_5) := blk_cell H_3.out 5; have k6_3 : w3.cell? ⟨s0, 6, none⟩ = some (.string a0_6) := blk_cell H_3.out 6; have k7_3 : w3.cell? ⟨s0, 7, none⟩ = some (.slice A0_7 l0_7.length c0_7) := blk_cell H_3.out 7) | (go_at_call 35; (with_reducible refine (spec_l02Within.calls a0_4 0 65535 false _ W2.out).mono ?_); rintro e_ w4 ⟨rfl, d_⟩; have b_ := kept_drawn d_; have H_4 := Aside0.mk (blk_below H_3.out b_); have HB4 := Aside0.mk (below_then HB3.out HB3.out.size b_); clear b_ d_ H_3 HB3 k0_3 k3_3 k4_3 k5_3 k6_3 k7_3; have k0_4 : w4.cell? ⟨s0, 0, none⟩ = some (.int .i64 a0_0) := blk_cell H_4.out 0; have k3_4 : w4.cell? ⟨s0, 3, none⟩ = some (.int .i64 a0_3) := blk_cell H_4.out 3; have k4_4 : w4.cell? ⟨s0, 4, none⟩ = some (.int .i64 a0_4) := blk_cell H_4.out 4; have k5_4 : w4.cell? ⟨s0, 5, none⟩ = some (.string a0_5) := blk_cell H_4.out 5; have k6_4 : w4.cell? ⟨s0, 6, none⟩ = some (.string a0_6) := blk_cell H_4.out 6; have k7_4 : w4.cell? ⟨s0, 7, none⟩ = some (.slice A0_7 l0_7.length c0_7) := blk_cell H_4.out 7))
    go_ret2
    exact ⟨_, rfl, Kd.R_nil _ _ _ _ _, HB4.out⟩
  have W2 := Aside0.mk (show spec_l02Within.f a0_4 0 65535 = some true by rw [spec_EncodeOp.win, decide_eq_true c2])
  by_cases c3 : a0_5.size ≤ 512
  case neg =>
    rw [if_neg (fun hg => by have h_ := opGood_get hg; simp only [c3, false_and, and_false] at h_)] at h
    simp only [Option.some.injEq, Prod.mk.injEq] at h
    obtain ⟨rfl, rfl⟩ := h
    have g3 : decide ((512 : Int) < (a0_5.size : Int)) = true := decide_eq_true (by omega)
    have g3_ : decide (512 < a0_5.size) = true := decide_eq_true (by omega)
    clear c0 c1 c2 c3
    go_enter Try.func18, Try.ntmps18
    go_wp2_with (first | ((with_reducible refine gate_dst (N := 1) rfl ?_); refine hx_box rfl 1 rfl 43 (.tmp 0) rfl Sz0 (.agg #[.int .i64 a0_0, .int .i64 a0_1, .int .i64 a0_2, .int .i64 a0_3, .int .i64 a0_4, .string a0_5, .string a0_6, .slice A0_7 l0_7.length c0_7]) #[.int .i64 a0_0, .int .i64 a0_1, .int .i64 a0_2, .int .i64 a0_3, .int .i64 a0_4, .string a0_5, .string a0_6, .slice A0_7 l0_7.length c0_7] rfl rfl ?_; intro w1 s1 L1 Sz1 b1 g_; have H_1 := Aside0.mk g_; have HB1 := Aside0.mk (below_then HB0.out HB0.out.size b1); clear g_ HB0 b1; have k0_1 : w1.cell? ⟨s0, 0, none⟩ = some (.int .i64 a0_0) := blk_cell H_1.out 0; have k3_1 : w1.cell? ⟨s0, 3, none⟩ = some (.int .i64 a0_3) := blk_cell H_1.out 3; have k4_1 : w1.cell? ⟨s0, 4, none⟩ = some (.int .i64 a0_4) := blk_cell H_1.out 4; have k5_1 : w1.cell? ⟨s0, 5, none⟩ = some (.string a0_5) := blk_cell H_1.out 5; have k6_1 : w1.cell? ⟨s0, 6, none⟩ = some (.string a0_6) := blk_cell H_1.out 6; have k7_1 : w1.cell? ⟨s0, 7, none⟩ = some (.slice A0_7 l0_7.length c0_7) := blk_cell H_1.out 7) | (go_at_call 35; (with_reducible refine (spec_l02Within.calls a0_0 0 255 true _ W0.out).mono ?_); rintro e_ w2 ⟨rfl, d_⟩; have b_ := kept_drawn d_; have H_2 := Aside0.mk (blk_below H_1.out b_); have HB2 := Aside0.mk (below_then HB1.out HB1.out.size b_); clear b_ d_ H_1 HB1 k0_1 k3_1 k4_1 k5_1 k6_1 k7_1; have k0_2 : w2.cell? ⟨s0, 0, none⟩ = some (.int .i64 a0_0) := blk_cell H_2.out 0; have k3_2 : w2.cell? ⟨s0, 3, none⟩ = some (.int .i64 a0_3) := blk_cell H_2.out 3; have k4_2 : w2.cell? ⟨s0, 4, none⟩ = some (.int .i64 a0_4) := blk_cell H_2.out 4; have k5_2 : w2.cell? ⟨s0, 5, none⟩ = some (.string a0_5) := blk_cell H_2.out 5; have k6_2 : w2.cell? ⟨s0, 6, none⟩ = some (.string a0_6) := blk_cell H_2.out 6; have k7_2 : w2.cell? ⟨s0, 7, none⟩ = some (.slice A0_7 l0_7.length c0_7) := blk_cell H_2.out 7) | (go_at_call 35; (with_reducible refine (spec_l02Within.calls a0_3 0 65535 true _ W1.out).mono ?_); rintro e_ w3 ⟨rfl, d_⟩; have b_ := kept_drawn d_; have H_3 := Aside0.mk (blk_below H_2.out b_); have HB3 := Aside0.mk (below_then HB2.out HB2.out.size b_); clear b_ d_ H_2 HB2 k0_2 k3_2 k4_2 k5_2 k6_2 k7_2; have k0_3 : w3.cell? ⟨s0, 0, none⟩ = some (.int .i64 a0_0) := blk_cell H_3.out 0; have k3_3 : w3.cell? ⟨s0, 3, none⟩ = some (.int .i64 a0_3) := blk_cell H_3.out 3; have k4_3 : w3.cell? ⟨s0, 4, none⟩ = some (.int .i64 a0_4) := blk_cell H_3.out 4; have k5_3 : w3.cell? ⟨s0, 5, none⟩ = some (.string a0_5) := blk_cell H_3.out 5; have k6_3 : w3.cell? ⟨s0, 6, none⟩ = some (.string a0_6) := blk_cell H_3.out 6; have k7_3 : w3.cell? ⟨s0, 7, none⟩ = some (.slice A0_7 l0_7.length c0_7) := blk_cell H_3.out 7) | (go_at_call 35; (with_reducible refine (spec_l02Within.calls a0_4 0 65535 true _ W2.out).mono ?_); rintro e_ w4 ⟨rfl, d_⟩; have b_ := kept_drawn d_; have H_4 := Aside0.mk (blk_below H_3.out b_); have HB4 := Aside0.mk (below_then HB3.out HB3.out.size b_); clear b_ d_ H_3 HB3 k0_3 k3_3 k4_3 k5_3 k6_3 k7_3; have k0_4 : w4.cell? ⟨s0, 0, none⟩ = some (.int .i64 a0_0) := blk_cell H_4.out 0; have k3_4 : w4.cell? ⟨s0, 3, none⟩ = some (.int .i64 a0_3) := blk_cell H_4.out 3; have k4_4 : w4.cell? ⟨s0, 4, none⟩ = some (.int .i64 a0_4) := blk_cell H_4.out 4; have k5_4 : w4.cell? ⟨s0, 5, none⟩ = some (.string a0_5) := blk_cell H_4.out 5; have k6_4 : w4.cell? ⟨s0, 6, none⟩ = some (.string a0_6) := blk_cell H_4.out 6; have k7_4 : w4.cell? ⟨s0, 7, none⟩ = some (.slice A0_7 l0_7.length c0_7) := blk_cell H_4.out 7))
    go_ret2
    exact ⟨_, rfl, Kd.R_nil _ _ _ _ _, HB4.out⟩
  have g3 : decide ((512 : Int) < (a0_5.size : Int)) = false := decide_eq_false (by omega)
  have g3_ : decide (512 < a0_5.size) = false := decide_eq_false (by omega)
  by_cases c4 : a0_6.size ≤ 512
  case neg =>
    rw [if_neg (fun hg => by have h_ := opGood_get hg; simp only [c4, false_and, and_false] at h_)] at h
    simp only [Option.some.injEq, Prod.mk.injEq] at h
    obtain ⟨rfl, rfl⟩ := h
    have g4 : decide ((512 : Int) < (a0_6.size : Int)) = true := decide_eq_true (by omega)
    have g4_ : decide (512 < a0_6.size) = true := decide_eq_true (by omega)
    clear c0 c1 c2 c3 c4
    go_enter Try.func18, Try.ntmps18
    go_wp2_with (first | ((with_reducible refine gate_dst (N := 1) rfl ?_); refine hx_box rfl 1 rfl 43 (.tmp 0) rfl Sz0 (.agg #[.int .i64 a0_0, .int .i64 a0_1, .int .i64 a0_2, .int .i64 a0_3, .int .i64 a0_4, .string a0_5, .string a0_6, .slice A0_7 l0_7.length c0_7]) #[.int .i64 a0_0, .int .i64 a0_1, .int .i64 a0_2, .int .i64 a0_3, .int .i64 a0_4, .string a0_5, .string a0_6, .slice A0_7 l0_7.length c0_7] rfl rfl ?_; intro w1 s1 L1 Sz1 b1 g_; have H_1 := Aside0.mk g_; have HB1 := Aside0.mk (below_then HB0.out HB0.out.size b1); clear g_ HB0 b1; have k0_1 : w1.cell? ⟨s0, 0, none⟩ = some (.int .i64 a0_0) := blk_cell H_1.out 0; have k3_1 : w1.cell? ⟨s0, 3, none⟩ = some (.int .i64 a0_3) := blk_cell H_1.out 3; have k4_1 : w1.cell? ⟨s0, 4, none⟩ = some (.int .i64 a0_4) := blk_cell H_1.out 4; have k5_1 : w1.cell? ⟨s0, 5, none⟩ = some (.string a0_5) := blk_cell H_1.out 5; have k6_1 : w1.cell? ⟨s0, 6, none⟩ = some (.string a0_6) := blk_cell H_1.out 6; have k7_1 : w1.cell? ⟨s0, 7, none⟩ = some (.slice A0_7 l0_7.length c0_7) := blk_cell H_1.out 7) | (go_at_call 35; (with_reducible refine (spec_l02Within.calls a0_0 0 255 true _ W0.out).mono ?_); rintro e_ w2 ⟨rfl, d_⟩; have b_ := kept_drawn d_; have H_2 := Aside0.mk (blk_below H_1.out b_); have HB2 := Aside0.mk (below_then HB1.out HB1.out.size b_); clear b_ d_ H_1 HB1 k0_1 k3_1 k4_1 k5_1 k6_1 k7_1; have k0_2 : w2.cell? ⟨s0, 0, none⟩ = some (.int .i64 a0_0) := blk_cell H_2.out 0; have k3_2 : w2.cell? ⟨s0, 3, none⟩ = some (.int .i64 a0_3) := blk_cell H_2.out 3; have k4_2 : w2.cell? ⟨s0, 4, none⟩ = some (.int .i64 a0_4) := blk_cell H_2.out 4; have k5_2 : w2.cell? ⟨s0, 5, none⟩ = some (.string a0_5) := blk_cell H_2.out 5; have k6_2 : w2.cell? ⟨s0, 6, none⟩ = some (.string a0_6) := blk_cell H_2.out 6; have k7_2 : w2.cell? ⟨s0, 7, none⟩ = some (.slice A0_7 l0_7.length c0_7) := blk_cell H_2.out 7) | (go_at_call 35; (with_reducible refine (spec_l02Within.calls a0_3 0 65535 true _ W1.out).mono ?_); rintro e_ w3 ⟨rfl, d_⟩; have b_ := kept_drawn d_; have H_3 := Aside0.mk (blk_below H_2.out b_); have HB3 := Aside0.mk (below_then HB2.out HB2.out.size b_); clear b_ d_ H_2 HB2 k0_2 k3_2 k4_2 k5_2 k6_2 k7_2; have k0_3 : w3.cell? ⟨s0, 0, none⟩ = some (.int .i64 a0_0) := blk_cell H_3.out 0; have k3_3 : w3.cell? ⟨s0, 3, none⟩ = some (.int .i64 a0_3) := blk_cell H_3.out 3; have k4_3 : w3.cell? ⟨s0, 4, none⟩ = some (.int .i64 a0_4) := blk_cell H_3.out 4; have k5_3 : w3.cell? ⟨s0, 5, none⟩ = some (.string a0_5) := blk_cell H_3.out 5; have k6_3 : w3.cell? ⟨s0, 6, none⟩ = some (.string a0_6) := blk_cell H_3.out 6; have k7_3 : w3.cell? ⟨s0, 7, none⟩ = some (.slice A0_7 l0_7.length c0_7) := blk_cell H_3.out 7) | (go_at_call 35; (with_reducible refine (spec_l02Within.calls a0_4 0 65535 true _ W2.out).mono ?_); rintro e_ w4 ⟨rfl, d_⟩; have b_ := kept_drawn d_; have H_4 := Aside0.mk (blk_below H_3.out b_); have HB4 := Aside0.mk (below_then HB3.out HB3.out.size b_); clear b_ d_ H_3 HB3 k0_3 k3_3 k4_3 k5_3 k6_3 k7_3; have k0_4 : w4.cell? ⟨s0, 0, none⟩ = some (.int .i64 a0_0) := blk_cell H_4.out 0; have k3_4 : w4.cell? ⟨s0, 3, none⟩ = some (.int .i64 a0_3) := blk_cell H_4.out 3; have k4_4 : w4.cell? ⟨s0, 4, none⟩ = some (.int .i64 a0_4) := blk_cell H_4.out 4; have k5_4 : w4.cell? ⟨s0, 5, none⟩ = some (.string a0_5) := blk_cell H_4.out 5; have k6_4 : w4.cell? ⟨s0, 6, none⟩ = some (.string a0_6) := blk_cell H_4.out 6; have k7_4 : w4.cell? ⟨s0, 7, none⟩ = some (.slice A0_7 l0_7.length c0_7) := blk_cell H_4.out 7))
    go_ret2
    exact ⟨_, rfl, Kd.R_nil _ _ _ _ _, HB4.out⟩
  have g4 : decide ((512 : Int) < (a0_6.size : Int)) = false := decide_eq_false (by omega)
  have g4_ : decide (512 < a0_6.size) = false := decide_eq_false (by omega)
  by_cases c5 : l0_7.length ≤ 4096
  case neg =>
    rw [if_neg (fun hg => by have h_ := opGood_get hg; simp only [c5, false_and, and_false] at h_)] at h
    simp only [Option.some.injEq, Prod.mk.injEq] at h
    obtain ⟨rfl, rfl⟩ := h
    have g5 : decide ((4096 : Int) < (l0_7.length : Int)) = true := decide_eq_true (by omega)
    have g5_ : decide (4096 < l0_7.length) = true := decide_eq_true (by omega)
    clear c0 c1 c2 c3 c4 c5
    go_enter Try.func18, Try.ntmps18
    go_wp2_with (first | ((with_reducible refine gate_dst (N := 1) rfl ?_); refine hx_box rfl 1 rfl 43 (.tmp 0) rfl Sz0 (.agg #[.int .i64 a0_0, .int .i64 a0_1, .int .i64 a0_2, .int .i64 a0_3, .int .i64 a0_4, .string a0_5, .string a0_6, .slice A0_7 l0_7.length c0_7]) #[.int .i64 a0_0, .int .i64 a0_1, .int .i64 a0_2, .int .i64 a0_3, .int .i64 a0_4, .string a0_5, .string a0_6, .slice A0_7 l0_7.length c0_7] rfl rfl ?_; intro w1 s1 L1 Sz1 b1 g_; have H_1 := Aside0.mk g_; have HB1 := Aside0.mk (below_then HB0.out HB0.out.size b1); clear g_ HB0 b1; have k0_1 : w1.cell? ⟨s0, 0, none⟩ = some (.int .i64 a0_0) := blk_cell H_1.out 0; have k3_1 : w1.cell? ⟨s0, 3, none⟩ = some (.int .i64 a0_3) := blk_cell H_1.out 3; have k4_1 : w1.cell? ⟨s0, 4, none⟩ = some (.int .i64 a0_4) := blk_cell H_1.out 4; have k5_1 : w1.cell? ⟨s0, 5, none⟩ = some (.string a0_5) := blk_cell H_1.out 5; have k6_1 : w1.cell? ⟨s0, 6, none⟩ = some (.string a0_6) := blk_cell H_1.out 6; have k7_1 : w1.cell? ⟨s0, 7, none⟩ = some (.slice A0_7 l0_7.length c0_7) := blk_cell H_1.out 7) | (go_at_call 35; (with_reducible refine (spec_l02Within.calls a0_0 0 255 true _ W0.out).mono ?_); rintro e_ w2 ⟨rfl, d_⟩; have b_ := kept_drawn d_; have H_2 := Aside0.mk (blk_below H_1.out b_); have HB2 := Aside0.mk (below_then HB1.out HB1.out.size b_); clear b_ d_ H_1 HB1 k0_1 k3_1 k4_1 k5_1 k6_1 k7_1; have k0_2 : w2.cell? ⟨s0, 0, none⟩ = some (.int .i64 a0_0) := blk_cell H_2.out 0; have k3_2 : w2.cell? ⟨s0, 3, none⟩ = some (.int .i64 a0_3) := blk_cell H_2.out 3; have k4_2 : w2.cell? ⟨s0, 4, none⟩ = some (.int .i64 a0_4) := blk_cell H_2.out 4; have k5_2 : w2.cell? ⟨s0, 5, none⟩ = some (.string a0_5) := blk_cell H_2.out 5; have k6_2 : w2.cell? ⟨s0, 6, none⟩ = some (.string a0_6) := blk_cell H_2.out 6; have k7_2 : w2.cell? ⟨s0, 7, none⟩ = some (.slice A0_7 l0_7.length c0_7) := blk_cell H_2.out 7) | (go_at_call 35; (with_reducible refine (spec_l02Within.calls a0_3 0 65535 true _ W1.out).mono ?_); rintro e_ w3 ⟨rfl, d_⟩; have b_ := kept_drawn d_; have H_3 := Aside0.mk (blk_below H_2.out b_); have HB3 := Aside0.mk (below_then HB2.out HB2.out.size b_); clear b_ d_ H_2 HB2 k0_2 k3_2 k4_2 k5_2 k6_2 k7_2; have k0_3 : w3.cell? ⟨s0, 0, none⟩ = some (.int .i64 a0_0) := blk_cell H_3.out 0; have k3_3 : w3.cell? ⟨s0, 3, none⟩ = some (.int .i64 a0_3) := blk_cell H_3.out 3; have k4_3 : w3.cell? ⟨s0, 4, none⟩ = some (.int .i64 a0_4) := blk_cell H_3.out 4; have k5_3 : w3.cell? ⟨s0, 5, none⟩ = some (.string a0_5) := blk_cell H_3.out 5; have k6_3 : w3.cell? ⟨s0, 6, none⟩ = some (.string a0_6) := blk_cell H_3.out 6; have k7_3 : w3.cell? ⟨s0, 7, none⟩ = some (.slice A0_7 l0_7.length c0_7) := blk_cell H_3.out 7) | (go_at_call 35; (with_reducible refine (spec_l02Within.calls a0_4 0 65535 true _ W2.out).mono ?_); rintro e_ w4 ⟨rfl, d_⟩; have b_ := kept_drawn d_; have H_4 := Aside0.mk (blk_below H_3.out b_); have HB4 := Aside0.mk (below_then HB3.out HB3.out.size b_); clear b_ d_ H_3 HB3 k0_3 k3_3 k4_3 k5_3 k6_3 k7_3; have k0_4 : w4.cell? ⟨s0, 0, none⟩ = some (.int .i64 a0_0) := blk_cell H_4.out 0; have k3_4 : w4.cell? ⟨s0, 3, none⟩ = some (.int .i64 a0_3) := blk_cell H_4.out 3; have k4_4 : w4.cell? ⟨s0, 4, none⟩ = some (.int .i64 a0_4) := blk_cell H_4.out 4; have k5_4 : w4.cell? ⟨s0, 5, none⟩ = some (.string a0_5) := blk_cell H_4.out 5; have k6_4 : w4.cell? ⟨s0, 6, none⟩ = some (.string a0_6) := blk_cell H_4.out 6; have k7_4 : w4.cell? ⟨s0, 7, none⟩ = some (.slice A0_7 l0_7.length c0_7) := blk_cell H_4.out 7))
    go_ret2
    exact ⟨_, rfl, Kd.R_nil _ _ _ _ _, HB4.out⟩
  have g5 : decide ((4096 : Int) < (l0_7.length : Int)) = false := decide_eq_false (by omega)
  have g5_ : decide (4096 < l0_7.length) = false := decide_eq_false (by omega)
  rw [if_pos (opGood_of c0 c1 c2 c3 c4 c5)] at h
  simp only [Option.some.injEq, Prod.mk.injEq] at h
  obtain ⟨rfl, rfl⟩ := h
  have E0 := Aside0.mk (show spec_l02Put.f 20 a0_0 1 = some (leB a0_0 1) from l02Put_f a0_0 1 20 (by decide) (by omega) (by omega) (by decide))
  have E1 := Aside0.mk (show spec_l11Signed.f 20 a0_1 = some (leB a0_1 8) from l11Signed_f a0_1 20 (by decide))
  have E2 := Aside0.mk (show spec_l11Signed.f 20 a0_2 = some (leB a0_2 8) from l11Signed_f a0_2 20 (by decide))
  have E3 := Aside0.mk (show spec_l02Put.f 20 a0_3 2 = some (leB a0_3 2) from l02Put_f a0_3 2 20 (by decide) (by omega) (by omega) (by decide))
  have E4 := Aside0.mk (show spec_l02Put.f 20 a0_4 2 = some (leB a0_4 2) from l02Put_f a0_4 2 20 (by decide) (by omega) (by omega) (by decide))
  have E5 := Aside0.mk (show spec_l02Put.f 20 ((a0_5.size : Nat) : Int) 2 = some (leB ((a0_5.size : Nat) : Int) 2) from l02Put_f ((a0_5.size : Nat) : Int) 2 20 (by decide) (by omega) (by omega) (by decide))
  have E6 := Aside0.mk (show spec_l02Put.f 20 ((a0_6.size : Nat) : Int) 2 = some (leB ((a0_6.size : Nat) : Int) 2) from l02Put_f ((a0_6.size : Nat) : Int) 2 20 (by decide) (by omega) (by omega) (by decide))
  have E7 := Aside0.mk (show spec_l02Put.f 20 ((l0_7.length : Nat) : Int) 4 = some (leB ((l0_7.length : Nat) : Int) 4) from l02Put_f ((l0_7.length : Nat) : Int) 4 20 (by decide) (by omega) (by omega) (by decide))
  have hsum : sumL (opParts a0_0 a0_1 a0_2 a0_3 a0_4 a0_5 a0_6 l0_7) < 1099511627776 := by rw [sumL_flatten]; show (opBytes _ _ _ _ _ _ _ _).length < _; rw [opBytes_length]; omega
  have EJ := Aside0.mk (show spec_l02Join.f 20 (opParts a0_0 a0_1 a0_2 a0_3 a0_4 a0_5 a0_6 l0_7) = some (opBytes a0_0 a0_1 a0_2 a0_3 a0_4 a0_5 a0_6 l0_7) from l02Join_f (opParts a0_0 a0_1 a0_2 a0_3 a0_4 a0_5 a0_6 l0_7) 20 (by show (11 : Nat) ≤ _; decide) (by show (11 : Nat) < _; decide) (by omega))
  have S5 := Aside0.mk (show a0_5.size ≤ 9223372036854775807 by omega)
  have S6 := Aside0.mk (show a0_6.size ≤ 9223372036854775807 by omega)
  clear c0 c1 c2 c3 c4 c5 hsum
  go_enter Try.func18, Try.ntmps18
  go_wp2_with (first | ((with_reducible refine gate_dst (N := 1) rfl ?_); refine hx_box rfl 1 rfl 43 (.tmp 0) rfl Sz0 (.agg #[.int .i64 a0_0, .int .i64 a0_1, .int .i64 a0_2, .int .i64 a0_3, .int .i64 a0_4, .string a0_5, .string a0_6, .slice A0_7 l0_7.length c0_7]) #[.int .i64 a0_0, .int .i64 a0_1, .int .i64 a0_2, .int .i64 a0_3, .int .i64 a0_4, .string a0_5, .string a0_6, .slice A0_7 l0_7.length c0_7] rfl rfl ?_; intro w1 s1 L1 Sz1 b1 g_; have H_1 := Aside0.mk g_; have HB1 := Aside0.mk (below_then HB0.out HB0.out.size b1); clear g_ HB0 b1; have k0_1 : w1.cell? ⟨s0, 0, none⟩ = some (.int .i64 a0_0) := blk_cell H_1.out 0; have k3_1 : w1.cell? ⟨s0, 3, none⟩ = some (.int .i64 a0_3) := blk_cell H_1.out 3; have k4_1 : w1.cell? ⟨s0, 4, none⟩ = some (.int .i64 a0_4) := blk_cell H_1.out 4; have k5_1 : w1.cell? ⟨s0, 5, none⟩ = some (.string a0_5) := blk_cell H_1.out 5; have k6_1 : w1.cell? ⟨s0, 6, none⟩ = some (.string a0_6) := blk_cell H_1.out 6; have k7_1 : w1.cell? ⟨s0, 7, none⟩ = some (.slice A0_7 l0_7.length c0_7) := blk_cell H_1.out 7) | (go_at_call 35; (with_reducible refine (spec_l02Within.calls a0_0 0 255 true _ W0.out).mono ?_); rintro e_ w2 ⟨rfl, d_⟩; have b_ := kept_drawn d_; have H_2 := Aside0.mk (blk_below H_1.out b_); have HB2 := Aside0.mk (below_then HB1.out HB1.out.size b_); clear b_ d_ H_1 HB1 k0_1 k3_1 k4_1 k5_1 k6_1 k7_1; have k0_2 : w2.cell? ⟨s0, 0, none⟩ = some (.int .i64 a0_0) := blk_cell H_2.out 0; have k3_2 : w2.cell? ⟨s0, 3, none⟩ = some (.int .i64 a0_3) := blk_cell H_2.out 3; have k4_2 : w2.cell? ⟨s0, 4, none⟩ = some (.int .i64 a0_4) := blk_cell H_2.out 4; have k5_2 : w2.cell? ⟨s0, 5, none⟩ = some (.string a0_5) := blk_cell H_2.out 5; have k6_2 : w2.cell? ⟨s0, 6, none⟩ = some (.string a0_6) := blk_cell H_2.out 6; have k7_2 : w2.cell? ⟨s0, 7, none⟩ = some (.slice A0_7 l0_7.length c0_7) := blk_cell H_2.out 7) | (go_at_call 35; (with_reducible refine (spec_l02Within.calls a0_3 0 65535 true _ W1.out).mono ?_); rintro e_ w3 ⟨rfl, d_⟩; have b_ := kept_drawn d_; have H_3 := Aside0.mk (blk_below H_2.out b_); have HB3 := Aside0.mk (below_then HB2.out HB2.out.size b_); clear b_ d_ H_2 HB2 k0_2 k3_2 k4_2 k5_2 k6_2 k7_2; have k0_3 : w3.cell? ⟨s0, 0, none⟩ = some (.int .i64 a0_0) := blk_cell H_3.out 0; have k3_3 : w3.cell? ⟨s0, 3, none⟩ = some (.int .i64 a0_3) := blk_cell H_3.out 3; have k4_3 : w3.cell? ⟨s0, 4, none⟩ = some (.int .i64 a0_4) := blk_cell H_3.out 4; have k5_3 : w3.cell? ⟨s0, 5, none⟩ = some (.string a0_5) := blk_cell H_3.out 5; have k6_3 : w3.cell? ⟨s0, 6, none⟩ = some (.string a0_6) := blk_cell H_3.out 6; have k7_3 : w3.cell? ⟨s0, 7, none⟩ = some (.slice A0_7 l0_7.length c0_7) := blk_cell H_3.out 7) | (go_at_call 35; (with_reducible refine (spec_l02Within.calls a0_4 0 65535 true _ W2.out).mono ?_); rintro e_ w4 ⟨rfl, d_⟩; have b_ := kept_drawn d_; have H_4 := Aside0.mk (blk_below H_3.out b_); have HB4 := Aside0.mk (below_then HB3.out HB3.out.size b_); clear b_ d_ H_3 HB3 k0_3 k3_3 k4_3 k5_3 k6_3 k7_3; have k0_4 : w4.cell? ⟨s0, 0, none⟩ = some (.int .i64 a0_0) := blk_cell H_4.out 0; have k3_4 : w4.cell? ⟨s0, 3, none⟩ = some (.int .i64 a0_3) := blk_cell H_4.out 3; have k4_4 : w4.cell? ⟨s0, 4, none⟩ = some (.int .i64 a0_4) := blk_cell H_4.out 4; have k5_4 : w4.cell? ⟨s0, 5, none⟩ = some (.string a0_5) := blk_cell H_4.out 5; have k6_4 : w4.cell? ⟨s0, 6, none⟩ = some (.string a0_6) := blk_cell H_4.out 6; have k7_4 : w4.cell? ⟨s0, 7, none⟩ = some (.slice A0_7 l0_7.length c0_7) := blk_cell H_4.out 7))
  have HBS := Aside0.mk HB4.out.size
  clear k0_4 k3_4 k4_4 k5_4 k6_4 k7_4
  refine wp_region_grow [Is (.pointer (some ⟨s0, 0, none⟩)), Is (.int .i64 a0_0), Own (Kd.int .u8) 5 w.heap.size (leB a0_0 1), Is (.pointer (some ⟨s0, 1, none⟩)), Is (.int .i64 a0_1), Own (Kd.int .u8) 5 w.heap.size (leB a0_1 8), Is (.pointer (some ⟨s0, 2, none⟩)), Is (.int .i64 a0_2), Own (Kd.int .u8) 5 w.heap.size (leB a0_2 8), Is (.pointer (some ⟨s0, 3, none⟩)), Is (.int .i64 a0_3), Own (Kd.int .u8) 5 w.heap.size (leB a0_3 2), Is (.pointer (some ⟨s0, 4, none⟩)), Is (.int .i64 a0_4), Own (Kd.int .u8) 5 w.heap.size (leB a0_4 2), Is (.pointer (some ⟨s0, 5, none⟩)), Is (.string a0_5), Is (.int .i64 ((a0_5.size : Nat) : Int)), Own (Kd.int .u8) 5 w.heap.size (leB ((a0_5.size : Nat) : Int) 2), Is (.pointer (some ⟨s0, 5, none⟩)), Is (.string a0_5), Row (Kd.int .u8) (bytesOf a0_5), Is (.pointer (some ⟨s0, 6, none⟩)), Is (.string a0_6), Is (.int .i64 ((a0_6.size : Nat) : Int)), Own (Kd.int .u8) 5 w.heap.size (leB ((a0_6.size : Nat) : Int) 2), Is (.pointer (some ⟨s0, 6, none⟩)), Is (.string a0_6), Row (Kd.int .u8) (bytesOf a0_6), Is (.pointer (some ⟨s0, 7, none⟩)), Is (.slice A0_7 l0_7.length c0_7), Is (.int .i64 ((l0_7.length : Nat) : Int)), Own (Kd.int .u8) 5 w.heap.size (leB ((l0_7.length : Nat) : Int) 4), Is (.pointer (some ⟨s0, 7, none⟩)), Is (.slice A0_7 l0_7.length c0_7), Row (Kd.slice 5 (Kd.int .u8)) [(leB a0_0 1), (leB a0_1 8), (leB a0_2 8), (leB a0_3 2), (leB a0_4 2), (leB ((a0_5.size : Nat) : Int) 2), (bytesOf a0_5), (leB ((a0_6.size : Nat) : Int) 2), (bytesOf a0_6), (leB ((l0_7.length : Nat) : Int) 4), l0_7], Own (Kd.int .u8) 5 w.heap.size (opBytes a0_0 a0_1 a0_2 a0_3 a0_4 a0_5 a0_6 l0_7), Own (Kd.int .u8) 5 w.heap.size (opBytes a0_0 a0_1 a0_2 a0_3 a0_4 a0_5 a0_6 l0_7), Is (.int .i64 0)] (by kernel_rfl) (by kernel_rfl) (by kernel_rfl) (allst_cons st_is (allst_cons st_is (allst_cons st_own (allst_cons st_is (allst_cons st_is (allst_cons st_own (allst_cons st_is (allst_cons st_is (allst_cons st_own (allst_cons st_is (allst_cons st_is (allst_cons st_own (allst_cons st_is (allst_cons st_is (allst_cons st_own (allst_cons st_is (allst_cons st_is (allst_cons st_is (allst_cons st_own (allst_cons st_is (allst_cons st_is (allst_cons st_row (allst_cons st_is (allst_cons st_is (allst_cons st_is (allst_cons st_own (allst_cons st_is (allst_cons st_is (allst_cons st_row (allst_cons st_is (allst_cons st_is (allst_cons st_is (allst_cons st_own (allst_cons st_is (allst_cons st_is (allst_cons st_row (allst_cons st_own (allst_cons st_own (allst_cons st_is allst_nil))))))))))))))))))))))))))))))))))))))) ?_ (fun wn hgn => ?_)
  · refine steps_cons ?_ ?_
    · refine stepO_val rfl [] [1] (by kernel_rfl) (.pointer (some ⟨s0, 0, none⟩)) (fun a w_ hg hf => ?_) (fun w_ _ => rfl)
      obtain ⟨_, ⟨o1, _⟩⟩ := hf
      have e1 : a.tmps[1]? = some (.pointer (some ⟨s0, 0, none⟩)) := o1.trans rfl
      unfold execOp
      simp only [PrintLast.eval_of e1, Act.eval]
      go_simp
      (try rfl)
    refine steps_cons ?_ ?_
    · refine stepO_val rfl [(0, 38)] [] (by kernel_rfl) (.int .i64 a0_0) (fun a w_ hg hf => ?_) (fun w_ _ => rfl)
      obtain ⟨⟨⟨_, e38, rfl⟩, _⟩, _⟩ := hf
      replace e38 : a.tmps[38]? = some (.pointer (some ⟨s0, 0, none⟩)) := e38
      have c_ := blk_cell (blk_below H_4.out hg) 0
      unfold execOp
      simp only [PrintLast.eval_of e38, Act.eval]
      go_simp
      (try rfl)
    refine steps_cons ?_ ?_
    · refine stepO_call rfl [(1, 39)] [] (by kernel_rfl) Try.func37 (by kernel_rfl) rfl rfl (fun a w_ hg hf => ?_)
      obtain ⟨⟨⟨_, e39, rfl⟩, _⟩, _⟩ := hf
      replace e39 : a.tmps[39]? = some (.int .i64 a0_0) := e39
      refine ⟨#[.int .i64 a0_0, .int .i64 1], (by simp only [List.map_toArray, List.map_cons, List.map_nil, PrintLast.eval_of e39]; first | done | rfl), (spec_l02Put.calls 20 a0_0 1 (leB a0_0 1) w_ E0.out).mono ?_⟩
      rintro e_ w2_ ⟨v_, rfl, R_, b_⟩
      exact ⟨_, rfl, b_, Kd.R_lower R_ (Nat.le_trans HBS.out hg.size)⟩
    refine steps_cons ?_ ?_
    · refine stepO_val rfl [] [1] (by kernel_rfl) (.pointer (some ⟨s0, 1, none⟩)) (fun a w_ hg hf => ?_) (fun w_ _ => rfl)
      obtain ⟨_, ⟨o1, _⟩⟩ := hf
      have e1 : a.tmps[1]? = some (.pointer (some ⟨s0, 0, none⟩)) := o1.trans rfl
      unfold execOp
      simp only [PrintLast.eval_of e1, Act.eval]
      go_simp
      (try rfl)
    refine steps_cons ?_ ?_
    · refine stepO_val rfl [(3, 41)] [] (by kernel_rfl) (.int .i64 a0_1) (fun a w_ hg hf => ?_) (fun w_ _ => rfl)
      obtain ⟨⟨⟨_, e41, rfl⟩, _⟩, _⟩ := hf
      replace e41 : a.tmps[41]? = some (.pointer (some ⟨s0, 1, none⟩)) := e41
      have c_ := blk_cell (blk_below H_4.out hg) 1
      unfold execOp
      simp only [PrintLast.eval_of e41, Act.eval]
      go_simp
      (try rfl)
    refine steps_cons ?_ ?_
    · refine stepO_call rfl [(4, 42)] [] (by kernel_rfl) Try.func38 (by kernel_rfl) rfl rfl (fun a w_ hg hf => ?_)
      obtain ⟨⟨⟨_, e42, rfl⟩, _⟩, _⟩ := hf
      replace e42 : a.tmps[42]? = some (.int .i64 a0_1) := e42
      refine ⟨#[.int .i64 a0_1], (by simp only [List.map_toArray, List.map_cons, List.map_nil, PrintLast.eval_of e42]; first | done | rfl), (spec_l11Signed.calls 20 a0_1 (leB a0_1 8) w_ E1.out).mono ?_⟩
      rintro e_ w2_ ⟨v_, rfl, R_, b_⟩
      exact ⟨_, rfl, b_, Kd.R_lower R_ (Nat.le_trans HBS.out hg.size)⟩
    refine steps_cons ?_ ?_
    · refine stepO_val rfl [] [1] (by kernel_rfl) (.pointer (some ⟨s0, 2, none⟩)) (fun a w_ hg hf => ?_) (fun w_ _ => rfl)
      obtain ⟨_, ⟨o1, _⟩⟩ := hf
      have e1 : a.tmps[1]? = some (.pointer (some ⟨s0, 0, none⟩)) := o1.trans rfl
      unfold execOp
      simp only [PrintLast.eval_of e1, Act.eval]
      go_simp
      (try rfl)
    refine steps_cons ?_ ?_
    · refine stepO_val rfl [(6, 44)] [] (by kernel_rfl) (.int .i64 a0_2) (fun a w_ hg hf => ?_) (fun w_ _ => rfl)
      obtain ⟨⟨⟨_, e44, rfl⟩, _⟩, _⟩ := hf
      replace e44 : a.tmps[44]? = some (.pointer (some ⟨s0, 2, none⟩)) := e44
      have c_ := blk_cell (blk_below H_4.out hg) 2
      unfold execOp
      simp only [PrintLast.eval_of e44, Act.eval]
      go_simp
      (try rfl)
    refine steps_cons ?_ ?_
    · refine stepO_call rfl [(7, 45)] [] (by kernel_rfl) Try.func38 (by kernel_rfl) rfl rfl (fun a w_ hg hf => ?_)
      obtain ⟨⟨⟨_, e45, rfl⟩, _⟩, _⟩ := hf
      replace e45 : a.tmps[45]? = some (.int .i64 a0_2) := e45
      refine ⟨#[.int .i64 a0_2], (by simp only [List.map_toArray, List.map_cons, List.map_nil, PrintLast.eval_of e45]; first | done | rfl), (spec_l11Signed.calls 20 a0_2 (leB a0_2 8) w_ E2.out).mono ?_⟩
      rintro e_ w2_ ⟨v_, rfl, R_, b_⟩
      exact ⟨_, rfl, b_, Kd.R_lower R_ (Nat.le_trans HBS.out hg.size)⟩
    refine steps_cons ?_ ?_
    · refine stepO_val rfl [] [1] (by kernel_rfl) (.pointer (some ⟨s0, 3, none⟩)) (fun a w_ hg hf => ?_) (fun w_ _ => rfl)
      obtain ⟨_, ⟨o1, _⟩⟩ := hf
      have e1 : a.tmps[1]? = some (.pointer (some ⟨s0, 0, none⟩)) := o1.trans rfl
      unfold execOp
      simp only [PrintLast.eval_of e1, Act.eval]
      go_simp
      (try rfl)
    refine steps_cons ?_ ?_
    · refine stepO_val rfl [(9, 47)] [] (by kernel_rfl) (.int .i64 a0_3) (fun a w_ hg hf => ?_) (fun w_ _ => rfl)
      obtain ⟨⟨⟨_, e47, rfl⟩, _⟩, _⟩ := hf
      replace e47 : a.tmps[47]? = some (.pointer (some ⟨s0, 3, none⟩)) := e47
      have c_ := blk_cell (blk_below H_4.out hg) 3
      unfold execOp
      simp only [PrintLast.eval_of e47, Act.eval]
      go_simp
      (try rfl)
    refine steps_cons ?_ ?_
    · refine stepO_call rfl [(10, 48)] [] (by kernel_rfl) Try.func37 (by kernel_rfl) rfl rfl (fun a w_ hg hf => ?_)
      obtain ⟨⟨⟨_, e48, rfl⟩, _⟩, _⟩ := hf
      replace e48 : a.tmps[48]? = some (.int .i64 a0_3) := e48
      refine ⟨#[.int .i64 a0_3, .int .i64 2], (by simp only [List.map_toArray, List.map_cons, List.map_nil, PrintLast.eval_of e48]; first | done | rfl), (spec_l02Put.calls 20 a0_3 2 (leB a0_3 2) w_ E3.out).mono ?_⟩
      rintro e_ w2_ ⟨v_, rfl, R_, b_⟩
      exact ⟨_, rfl, b_, Kd.R_lower R_ (Nat.le_trans HBS.out hg.size)⟩
    refine steps_cons ?_ ?_
    · refine stepO_val rfl [] [1] (by kernel_rfl) (.pointer (some ⟨s0, 4, none⟩)) (fun a w_ hg hf => ?_) (fun w_ _ => rfl)
      obtain ⟨_, ⟨o1, _⟩⟩ := hf
      have e1 : a.tmps[1]? = some (.pointer (some ⟨s0, 0, none⟩)) := o1.trans rfl
      unfold execOp
      simp only [PrintLast.eval_of e1, Act.eval]
      go_simp
      (try rfl)
    refine steps_cons ?_ ?_
    · refine stepO_val rfl [(12, 50)] [] (by kernel_rfl) (.int .i64 a0_4) (fun a w_ hg hf => ?_) (fun w_ _ => rfl)
      obtain ⟨⟨⟨_, e50, rfl⟩, _⟩, _⟩ := hf
      replace e50 : a.tmps[50]? = some (.pointer (some ⟨s0, 4, none⟩)) := e50
      have c_ := blk_cell (blk_below H_4.out hg) 4
      unfold execOp
      simp only [PrintLast.eval_of e50, Act.eval]
      go_simp
      (try rfl)
    refine steps_cons ?_ ?_
    · refine stepO_call rfl [(13, 51)] [] (by kernel_rfl) Try.func37 (by kernel_rfl) rfl rfl (fun a w_ hg hf => ?_)
      obtain ⟨⟨⟨_, e51, rfl⟩, _⟩, _⟩ := hf
      replace e51 : a.tmps[51]? = some (.int .i64 a0_4) := e51
      refine ⟨#[.int .i64 a0_4, .int .i64 2], (by simp only [List.map_toArray, List.map_cons, List.map_nil, PrintLast.eval_of e51]; first | done | rfl), (spec_l02Put.calls 20 a0_4 2 (leB a0_4 2) w_ E4.out).mono ?_⟩
      rintro e_ w2_ ⟨v_, rfl, R_, b_⟩
      exact ⟨_, rfl, b_, Kd.R_lower R_ (Nat.le_trans HBS.out hg.size)⟩
    refine steps_cons ?_ ?_
    · refine stepO_val rfl [] [1] (by kernel_rfl) (.pointer (some ⟨s0, 5, none⟩)) (fun a w_ hg hf => ?_) (fun w_ _ => rfl)
      obtain ⟨_, ⟨o1, _⟩⟩ := hf
      have e1 : a.tmps[1]? = some (.pointer (some ⟨s0, 0, none⟩)) := o1.trans rfl
      unfold execOp
      simp only [PrintLast.eval_of e1, Act.eval]
      go_simp
      (try rfl)
    refine steps_cons ?_ ?_
    · refine stepO_val rfl [(15, 53)] [] (by kernel_rfl) (.string a0_5) (fun a w_ hg hf => ?_) (fun w_ _ => rfl)
      obtain ⟨⟨⟨_, e53, rfl⟩, _⟩, _⟩ := hf
      replace e53 : a.tmps[53]? = some (.pointer (some ⟨s0, 5, none⟩)) := e53
      have c_ := blk_cell (blk_below H_4.out hg) 5
      unfold execOp
      simp only [PrintLast.eval_of e53, Act.eval]
      go_simp
      (try rfl)
    refine steps_cons ?_ ?_
    · refine stepO_val rfl [(16, 54)] [] (by kernel_rfl) (.int .i64 ((a0_5.size : Nat) : Int)) (fun a w_ hg hf => ?_) (fun w_ _ => rfl)
      obtain ⟨⟨⟨_, e54, rfl⟩, _⟩, _⟩ := hf
      replace e54 : a.tmps[54]? = some (.string a0_5) := e54
      unfold execOp
      simp only [PrintLast.eval_of e54, Act.eval]
      go_simp
      (try rfl)
    refine steps_cons ?_ ?_
    · refine stepO_call rfl [(17, 55)] [] (by kernel_rfl) Try.func37 (by kernel_rfl) rfl rfl (fun a w_ hg hf => ?_)
      obtain ⟨⟨⟨_, e55, rfl⟩, _⟩, _⟩ := hf
      replace e55 : a.tmps[55]? = some (.int .i64 ((a0_5.size : Nat) : Int)) := e55
      refine ⟨#[.int .i64 ((a0_5.size : Nat) : Int), .int .i64 2], (by simp only [List.map_toArray, List.map_cons, List.map_nil, PrintLast.eval_of e55]; first | done | rfl), (spec_l02Put.calls 20 ((a0_5.size : Nat) : Int) 2 (leB ((a0_5.size : Nat) : Int) 2) w_ E5.out).mono ?_⟩
      rintro e_ w2_ ⟨v_, rfl, R_, b_⟩
      exact ⟨_, rfl, b_, Kd.R_lower R_ (Nat.le_trans HBS.out hg.size)⟩
    refine steps_cons ?_ ?_
    · refine stepO_val rfl [] [1] (by kernel_rfl) (.pointer (some ⟨s0, 5, none⟩)) (fun a w_ hg hf => ?_) (fun w_ _ => rfl)
      obtain ⟨_, ⟨o1, _⟩⟩ := hf
      have e1 : a.tmps[1]? = some (.pointer (some ⟨s0, 0, none⟩)) := o1.trans rfl
      unfold execOp
      simp only [PrintLast.eval_of e1, Act.eval]
      go_simp
      (try rfl)
    refine steps_cons ?_ ?_
    · refine stepO_val rfl [(19, 57)] [] (by kernel_rfl) (.string a0_5) (fun a w_ hg hf => ?_) (fun w_ _ => rfl)
      obtain ⟨⟨⟨_, e57, rfl⟩, _⟩, _⟩ := hf
      replace e57 : a.tmps[57]? = some (.pointer (some ⟨s0, 5, none⟩)) := e57
      have c_ := blk_cell (blk_below H_4.out hg) 5
      unfold execOp
      simp only [PrintLast.eval_of e57, Act.eval]
      go_simp
      (try rfl)
    refine steps_cons ?_ ?_
    · refine stepO_bytes rfl [(20, 58)] [] (by kernel_rfl) rfl Try.underlying9 Try.underlying22 Try.underlying5 a0_5 S5.out (fun a w_ hg hf => ?_) (fun _ _ h => h)
      obtain ⟨⟨⟨_, e58, rfl⟩, _⟩, _⟩ := hf
      replace e58 : a.tmps[58]? = some (.string a0_5) := e58
      exact PrintLast.eval_of e58
    refine steps_cons ?_ ?_
    · refine stepO_val rfl [] [1] (by kernel_rfl) (.pointer (some ⟨s0, 6, none⟩)) (fun a w_ hg hf => ?_) (fun w_ _ => rfl)
      obtain ⟨_, ⟨o1, _⟩⟩ := hf
      have e1 : a.tmps[1]? = some (.pointer (some ⟨s0, 0, none⟩)) := o1.trans rfl
      unfold execOp
      simp only [PrintLast.eval_of e1, Act.eval]
      go_simp
      (try rfl)
    refine steps_cons ?_ ?_
    · refine stepO_val rfl [(22, 60)] [] (by kernel_rfl) (.string a0_6) (fun a w_ hg hf => ?_) (fun w_ _ => rfl)
      obtain ⟨⟨⟨_, e60, rfl⟩, _⟩, _⟩ := hf
      replace e60 : a.tmps[60]? = some (.pointer (some ⟨s0, 6, none⟩)) := e60
      have c_ := blk_cell (blk_below H_4.out hg) 6
      unfold execOp
      simp only [PrintLast.eval_of e60, Act.eval]
      go_simp
      (try rfl)
    refine steps_cons ?_ ?_
    · refine stepO_val rfl [(23, 61)] [] (by kernel_rfl) (.int .i64 ((a0_6.size : Nat) : Int)) (fun a w_ hg hf => ?_) (fun w_ _ => rfl)
      obtain ⟨⟨⟨_, e61, rfl⟩, _⟩, _⟩ := hf
      replace e61 : a.tmps[61]? = some (.string a0_6) := e61
      unfold execOp
      simp only [PrintLast.eval_of e61, Act.eval]
      go_simp
      (try rfl)
    refine steps_cons ?_ ?_
    · refine stepO_call rfl [(24, 62)] [] (by kernel_rfl) Try.func37 (by kernel_rfl) rfl rfl (fun a w_ hg hf => ?_)
      obtain ⟨⟨⟨_, e62, rfl⟩, _⟩, _⟩ := hf
      replace e62 : a.tmps[62]? = some (.int .i64 ((a0_6.size : Nat) : Int)) := e62
      refine ⟨#[.int .i64 ((a0_6.size : Nat) : Int), .int .i64 2], (by simp only [List.map_toArray, List.map_cons, List.map_nil, PrintLast.eval_of e62]; first | done | rfl), (spec_l02Put.calls 20 ((a0_6.size : Nat) : Int) 2 (leB ((a0_6.size : Nat) : Int) 2) w_ E6.out).mono ?_⟩
      rintro e_ w2_ ⟨v_, rfl, R_, b_⟩
      exact ⟨_, rfl, b_, Kd.R_lower R_ (Nat.le_trans HBS.out hg.size)⟩
    refine steps_cons ?_ ?_
    · refine stepO_val rfl [] [1] (by kernel_rfl) (.pointer (some ⟨s0, 6, none⟩)) (fun a w_ hg hf => ?_) (fun w_ _ => rfl)
      obtain ⟨_, ⟨o1, _⟩⟩ := hf
      have e1 : a.tmps[1]? = some (.pointer (some ⟨s0, 0, none⟩)) := o1.trans rfl
      unfold execOp
      simp only [PrintLast.eval_of e1, Act.eval]
      go_simp
      (try rfl)
    refine steps_cons ?_ ?_
    · refine stepO_val rfl [(26, 64)] [] (by kernel_rfl) (.string a0_6) (fun a w_ hg hf => ?_) (fun w_ _ => rfl)
      obtain ⟨⟨⟨_, e64, rfl⟩, _⟩, _⟩ := hf
      replace e64 : a.tmps[64]? = some (.pointer (some ⟨s0, 6, none⟩)) := e64
      have c_ := blk_cell (blk_below H_4.out hg) 6
      unfold execOp
      simp only [PrintLast.eval_of e64, Act.eval]
      go_simp
      (try rfl)
    refine steps_cons ?_ ?_
    · refine stepO_bytes rfl [(27, 65)] [] (by kernel_rfl) rfl Try.underlying9 Try.underlying22 Try.underlying5 a0_6 S6.out (fun a w_ hg hf => ?_) (fun _ _ h => h)
      obtain ⟨⟨⟨_, e65, rfl⟩, _⟩, _⟩ := hf
      replace e65 : a.tmps[65]? = some (.string a0_6) := e65
      exact PrintLast.eval_of e65
    refine steps_cons ?_ ?_
    · refine stepO_val rfl [] [1] (by kernel_rfl) (.pointer (some ⟨s0, 7, none⟩)) (fun a w_ hg hf => ?_) (fun w_ _ => rfl)
      obtain ⟨_, ⟨o1, _⟩⟩ := hf
      have e1 : a.tmps[1]? = some (.pointer (some ⟨s0, 0, none⟩)) := o1.trans rfl
      unfold execOp
      simp only [PrintLast.eval_of e1, Act.eval]
      go_simp
      (try rfl)
    refine steps_cons ?_ ?_
    · refine stepO_val rfl [(29, 67)] [] (by kernel_rfl) (.slice A0_7 l0_7.length c0_7) (fun a w_ hg hf => ?_) (fun w_ _ => rfl)
      obtain ⟨⟨⟨_, e67, rfl⟩, _⟩, _⟩ := hf
      replace e67 : a.tmps[67]? = some (.pointer (some ⟨s0, 7, none⟩)) := e67
      have c_ := blk_cell (blk_below H_4.out hg) 7
      unfold execOp
      simp only [PrintLast.eval_of e67, Act.eval]
      go_simp
      (try rfl)
    refine steps_cons ?_ ?_
    · refine stepO_val rfl [(30, 68)] [] (by kernel_rfl) (.int .i64 ((l0_7.length : Nat) : Int)) (fun a w_ hg hf => ?_) (fun w_ _ => rfl)
      obtain ⟨⟨⟨_, e68, rfl⟩, _⟩, _⟩ := hf
      replace e68 : a.tmps[68]? = some (.slice A0_7 l0_7.length c0_7) := e68
      unfold execOp
      simp only [PrintLast.eval_of e68, Act.eval]
      go_simp
      (try rfl)
    refine steps_cons ?_ ?_
    · refine stepO_call rfl [(31, 69)] [] (by kernel_rfl) Try.func37 (by kernel_rfl) rfl rfl (fun a w_ hg hf => ?_)
      obtain ⟨⟨⟨_, e69, rfl⟩, _⟩, _⟩ := hf
      replace e69 : a.tmps[69]? = some (.int .i64 ((l0_7.length : Nat) : Int)) := e69
      refine ⟨#[.int .i64 ((l0_7.length : Nat) : Int), .int .i64 4], (by simp only [List.map_toArray, List.map_cons, List.map_nil, PrintLast.eval_of e69]; first | done | rfl), (spec_l02Put.calls 20 ((l0_7.length : Nat) : Int) 4 (leB ((l0_7.length : Nat) : Int) 4) w_ E7.out).mono ?_⟩
      rintro e_ w2_ ⟨v_, rfl, R_, b_⟩
      exact ⟨_, rfl, b_, Kd.R_lower R_ (Nat.le_trans HBS.out hg.size)⟩
    refine steps_cons ?_ ?_
    · refine stepO_val rfl [] [1] (by kernel_rfl) (.pointer (some ⟨s0, 7, none⟩)) (fun a w_ hg hf => ?_) (fun w_ _ => rfl)
      obtain ⟨_, ⟨o1, _⟩⟩ := hf
      have e1 : a.tmps[1]? = some (.pointer (some ⟨s0, 0, none⟩)) := o1.trans rfl
      unfold execOp
      simp only [PrintLast.eval_of e1, Act.eval]
      go_simp
      (try rfl)
    refine steps_cons ?_ ?_
    · refine stepO_val rfl [(33, 71)] [] (by kernel_rfl) (.slice A0_7 l0_7.length c0_7) (fun a w_ hg hf => ?_) (fun w_ _ => rfl)
      obtain ⟨⟨⟨_, e71, rfl⟩, _⟩, _⟩ := hf
      replace e71 : a.tmps[71]? = some (.pointer (some ⟨s0, 7, none⟩)) := e71
      have c_ := blk_cell (blk_below H_4.out hg) 7
      unfold execOp
      simp only [PrintLast.eval_of e71, Act.eval]
      go_simp
      (try rfl)
    refine steps_cons ?_ ?_
    · refine stepO_lit rfl [(2, 40), (5, 43), (8, 46), (11, 49), (14, 52), (18, 56), (21, 59), (25, 63), (28, 66), (32, 70), (34, 72)] [] (by kernel_rfl) (Kd.int .u8) 5 22 [(leB a0_0 1), (leB a0_1 8), (leB a0_2 8), (leB a0_3 2), (leB a0_4 2), (leB ((a0_5.size : Nat) : Int) 2), (bytesOf a0_5), (leB ((a0_6.size : Nat) : Int) 2), (bytesOf a0_6), (leB ((l0_7.length : Nat) : Int) 4), l0_7] (by simp) (fun a w_ hg hf => ?_) (fun _ _ h => h)
      obtain ⟨⟨⟨v40, e40, p40⟩, ⟨v43, e43, p43⟩, ⟨v46, e46, p46⟩, ⟨v49, e49, p49⟩, ⟨v52, e52, p52⟩, ⟨v56, e56, p56⟩, ⟨v59, e59, p59⟩, ⟨v63, e63, p63⟩, ⟨v66, e66, p66⟩, ⟨v70, e70, p70⟩, ⟨_, e72, rfl⟩, _⟩, _⟩ := hf
      replace e40 : a.tmps[40]? = some (v40) := e40
      replace e43 : a.tmps[43]? = some (v43) := e43
      replace e46 : a.tmps[46]? = some (v46) := e46
      replace e49 : a.tmps[49]? = some (v49) := e49
      replace e52 : a.tmps[52]? = some (v52) := e52
      replace e56 : a.tmps[56]? = some (v56) := e56
      replace e59 : a.tmps[59]? = some (v59) := e59
      replace e63 : a.tmps[63]? = some (v63) := e63
      replace e66 : a.tmps[66]? = some (v66) := e66
      replace e70 : a.tmps[70]? = some (v70) := e70
      replace e72 : a.tmps[72]? = some (.slice A0_7 l0_7.length c0_7) := e72
      obtain ⟨A70, c70, rfl, h70, C70⟩ := own_row p70
      obtain ⟨A66, c66, rfl, h66, C66⟩ := p66
      obtain ⟨A63, c63, rfl, h63, C63⟩ := own_row p63
      obtain ⟨A59, c59, rfl, h59, C59⟩ := p59
      obtain ⟨A56, c56, rfl, h56, C56⟩ := own_row p56
      obtain ⟨A52, c52, rfl, h52, C52⟩ := own_row p52
      obtain ⟨A49, c49, rfl, h49, C49⟩ := own_row p49
      obtain ⟨A46, c46, rfl, h46, C46⟩ := own_row p46
      obtain ⟨A43, c43, rfl, h43, C43⟩ := own_row p43
      obtain ⟨A40, c40, rfl, h40, C40⟩ := own_row p40
      refine ⟨[(.slice A40 (leB a0_0 1).length c40), (.slice A43 (leB a0_1 8).length c43), (.slice A46 (leB a0_2 8).length c46), (.slice A49 (leB a0_3 2).length c49), (.slice A52 (leB a0_4 2).length c52), (.slice A56 (leB ((a0_5.size : Nat) : Int) 2).length c56), (.slice A59 (bytesOf a0_5).length c59), (.slice A63 (leB ((a0_6.size : Nat) : Int) 2).length c63), (.slice A66 (bytesOf a0_6).length c66), (.slice A70 (leB ((l0_7.length : Nat) : Int) 4).length c70), (.slice A0_7 l0_7.length c0_7)], rows_cons ⟨_, _, rfl, h40, C40⟩ (rows_cons ⟨_, _, rfl, h43, C43⟩ (rows_cons ⟨_, _, rfl, h46, C46⟩ (rows_cons ⟨_, _, rfl, h49, C49⟩ (rows_cons ⟨_, _, rfl, h52, C52⟩ (rows_cons ⟨_, _, rfl, h56, C56⟩ (rows_cons ⟨_, _, rfl, h59, C59⟩ (rows_cons ⟨_, _, rfl, h63, C63⟩ (rows_cons ⟨_, _, rfl, h66, C66⟩ (rows_cons ⟨_, _, rfl, h70, C70⟩ (rows_cons ⟨_, _, rfl, HC7.out, (Kd.C_below HR7.out (below_then HB4.out HB4.out.size hg))⟩ (rows_nil))))))))))), ?_⟩
      unfold execOp
      simp only [PrintLast.eval_of e40, PrintLast.eval_of e43, PrintLast.eval_of e46, PrintLast.eval_of e49, PrintLast.eval_of e52, PrintLast.eval_of e56, PrintLast.eval_of e59, PrintLast.eval_of e63, PrintLast.eval_of e66, PrintLast.eval_of e70, PrintLast.eval_of e72]
      go_simp
      (try rfl)
    refine steps_cons ?_ ?_
    · refine stepO_call rfl [(35, 73)] [] (by kernel_rfl) Try.func36 (by kernel_rfl) rfl rfl (fun a w_ hg hf => ?_)
      obtain ⟨⟨⟨v73, e73, p73⟩, _⟩, _⟩ := hf
      replace e73 : a.tmps[73]? = some (v73) := e73
      obtain ⟨A73, c73, rfl, h73, C73⟩ := p73
      refine ⟨#[.slice A73 [(leB a0_0 1), (leB a0_1 8), (leB a0_2 8), (leB a0_3 2), (leB a0_4 2), (leB ((a0_5.size : Nat) : Int) 2), (bytesOf a0_5), (leB ((a0_6.size : Nat) : Int) 2), (bytesOf a0_6), (leB ((l0_7.length : Nat) : Int) 4), l0_7].length c73], (by simp only [List.map_toArray, List.map_cons, List.map_nil, PrintLast.eval_of e73]; first | done | rfl), (spec_l02Join.calls 20 A73 c73 _ (opBytes a0_0 a0_1 a0_2 a0_3 a0_4 a0_5 a0_6 l0_7) w_ C73 h73 EJ.out).mono ?_⟩
      rintro e_ w2_ ⟨v_, rfl, R_, b_⟩
      exact ⟨_, rfl, b_, Kd.R_lower R_ (Nat.le_trans HBS.out hg.size)⟩
    refine steps_cons ?_ ?_
    · refine stepO_run rfl [(36, 74)] [] (by kernel_rfl) (fun a w_ hg hf => ?_)
      obtain ⟨⟨⟨v74, e74, p74⟩, _⟩, _⟩ := hf
      replace e74 : a.tmps[74]? = some (v74) := e74
      exact ⟨v74, w_, by unfold execOp; simp only [PrintLast.eval_of e74]; rfl, Below.refl _ _, p74⟩
    refine steps_cons ?_ ?_
    · refine stepO_val rfl [] [] (by kernel_rfl) (.int .i64 0) (fun a w_ hg hf => ?_) (fun w_ _ => rfl)
      obtain ⟨_, _⟩ := hf
      unfold execOp
      skip
      rfl
    exact steps_nil
  · skip
    refine ends_cons (fun v0_ p0_ => ?_)
    obtain rfl : v0_ = _ := p0_
    refine ends_cons (fun v1_ p1_ => ?_)
    obtain rfl : v1_ = _ := p1_
    refine ends_cons (fun v2_ p2_ => ?_)
    replace p2_ := Aside0.mk (show Own (Kd.int .u8) 5 w.heap.size (leB a0_0 1) v2_ wn from p2_)
    refine ends_cons (fun v3_ p3_ => ?_)
    obtain rfl : v3_ = _ := p3_
    refine ends_cons (fun v4_ p4_ => ?_)
    obtain rfl : v4_ = _ := p4_
    refine ends_cons (fun v5_ p5_ => ?_)
    replace p5_ := Aside0.mk (show Own (Kd.int .u8) 5 w.heap.size (leB a0_1 8) v5_ wn from p5_)
    refine ends_cons (fun v6_ p6_ => ?_)
    obtain rfl : v6_ = _ := p6_
    refine ends_cons (fun v7_ p7_ => ?_)
    obtain rfl : v7_ = _ := p7_
    refine ends_cons (fun v8_ p8_ => ?_)
    replace p8_ := Aside0.mk (show Own (Kd.int .u8) 5 w.heap.size (leB a0_2 8) v8_ wn from p8_)
    refine ends_cons (fun v9_ p9_ => ?_)
    obtain rfl : v9_ = _ := p9_
    refine ends_cons (fun v10_ p10_ => ?_)
    obtain rfl : v10_ = _ := p10_
    refine ends_cons (fun v11_ p11_ => ?_)
    replace p11_ := Aside0.mk (show Own (Kd.int .u8) 5 w.heap.size (leB a0_3 2) v11_ wn from p11_)
    refine ends_cons (fun v12_ p12_ => ?_)
    obtain rfl : v12_ = _ := p12_
    refine ends_cons (fun v13_ p13_ => ?_)
    obtain rfl : v13_ = _ := p13_
    refine ends_cons (fun v14_ p14_ => ?_)
    replace p14_ := Aside0.mk (show Own (Kd.int .u8) 5 w.heap.size (leB a0_4 2) v14_ wn from p14_)
    refine ends_cons (fun v15_ p15_ => ?_)
    obtain rfl : v15_ = _ := p15_
    refine ends_cons (fun v16_ p16_ => ?_)
    obtain rfl : v16_ = _ := p16_
    refine ends_cons (fun v17_ p17_ => ?_)
    obtain rfl : v17_ = _ := p17_
    refine ends_cons (fun v18_ p18_ => ?_)
    replace p18_ := Aside0.mk (show Own (Kd.int .u8) 5 w.heap.size (leB ((a0_5.size : Nat) : Int) 2) v18_ wn from p18_)
    refine ends_cons (fun v19_ p19_ => ?_)
    obtain rfl : v19_ = _ := p19_
    refine ends_cons (fun v20_ p20_ => ?_)
    obtain rfl : v20_ = _ := p20_
    refine ends_cons (fun v21_ p21_ => ?_)
    replace p21_ := Aside0.mk (show Row (Kd.int .u8) (bytesOf a0_5) v21_ wn from p21_)
    refine ends_cons (fun v22_ p22_ => ?_)
    obtain rfl : v22_ = _ := p22_
    refine ends_cons (fun v23_ p23_ => ?_)
    obtain rfl : v23_ = _ := p23_
    refine ends_cons (fun v24_ p24_ => ?_)
    obtain rfl : v24_ = _ := p24_
    refine ends_cons (fun v25_ p25_ => ?_)
    replace p25_ := Aside0.mk (show Own (Kd.int .u8) 5 w.heap.size (leB ((a0_6.size : Nat) : Int) 2) v25_ wn from p25_)
    refine ends_cons (fun v26_ p26_ => ?_)
    obtain rfl : v26_ = _ := p26_
    refine ends_cons (fun v27_ p27_ => ?_)
    obtain rfl : v27_ = _ := p27_
    refine ends_cons (fun v28_ p28_ => ?_)
    replace p28_ := Aside0.mk (show Row (Kd.int .u8) (bytesOf a0_6) v28_ wn from p28_)
    refine ends_cons (fun v29_ p29_ => ?_)
    obtain rfl : v29_ = _ := p29_
    refine ends_cons (fun v30_ p30_ => ?_)
    obtain rfl : v30_ = _ := p30_
    refine ends_cons (fun v31_ p31_ => ?_)
    obtain rfl : v31_ = _ := p31_
    refine ends_cons (fun v32_ p32_ => ?_)
    replace p32_ := Aside0.mk (show Own (Kd.int .u8) 5 w.heap.size (leB ((l0_7.length : Nat) : Int) 4) v32_ wn from p32_)
    refine ends_cons (fun v33_ p33_ => ?_)
    obtain rfl : v33_ = _ := p33_
    refine ends_cons (fun v34_ p34_ => ?_)
    obtain rfl : v34_ = _ := p34_
    refine ends_cons (fun v35_ p35_ => ?_)
    replace p35_ := Aside0.mk (show Row (Kd.slice 5 (Kd.int .u8)) [(leB a0_0 1), (leB a0_1 8), (leB a0_2 8), (leB a0_3 2), (leB a0_4 2), (leB ((a0_5.size : Nat) : Int) 2), (bytesOf a0_5), (leB ((a0_6.size : Nat) : Int) 2), (bytesOf a0_6), (leB ((l0_7.length : Nat) : Int) 4), l0_7] v35_ wn from p35_)
    refine ends_cons (fun v36_ p36_ => ?_)
    replace p36_ := Aside0.mk (show Own (Kd.int .u8) 5 w.heap.size (opBytes a0_0 a0_1 a0_2 a0_3 a0_4 a0_5 a0_6 l0_7) v36_ wn from p36_)
    refine ends_cons (fun v37_ p37_ => ?_)
    replace p37_ := Aside0.mk (show Own (Kd.int .u8) 5 w.heap.size (opBytes a0_0 a0_1 a0_2 a0_3 a0_4 a0_5 a0_6 l0_7) v37_ wn from p37_)
    refine ends_cons (fun v38_ p38_ => ?_)
    obtain rfl : v38_ = _ := p38_
    refine ends_nil ?_
    simp only [Act.put, List.setIfInBounds_toArray, List.set_cons_succ, List.set_cons_zero]
    go_wp2
    go_ret2
    exact ⟨_, rfl, p37_.out, below_then HB4.out HB4.out.size hgn⟩

end Go.Proofs.Ytknlpjoidjgciaa.PFnExactLogRecord
