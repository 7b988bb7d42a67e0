-- Written by a program of this session (patch_print.py over the kit print)
import Derived.Test.YtknlpjoidjgciaaPFnExactLogRecordx0
import Derived.Test.YtknlpjoidjgciaaPFnExactLogRecordx9
import Derived.Test.YtknlpjoidjgciaaPFnExactLogRecordx11
import Derived.Test.YtknlpjoidjgciaaPFnExactLogRecordx12
import Derived.Test.YtknlpjoidjgciaaPFnExactLogRecordx13
import Derived.Test.YtknlpjoidjgciaaPFnExactLogRecordx14
import Derived.Test.YtknlpjoidjgciaaPFnExactLogRecordx15
namespace Go.Proofs.Ytknlpjoidjgciaa.PFnExactLogRecord
open Go.RowKit Go.Proofs.YtknlpjoidjgciaaW.PrintWords Go.Proofs.YtknlpjoidjgciaaW.PrintLast Go.Proofs.YtknlpjoidjgciaaW.PrintMore
attribute [local go_sem] max2_int min2_int max_two min_two max_three min_three max_four min_four   -- for this text's walks alone
set_option linter.unusedVariables false
set_option linter.unusedSimpArgs false

open Go.Proofs.YtknlpjoidjgciaaW Go.Proofs.YtknlpjoidjgciaaW.PrintHand Go.Proofs.YtknlpjoidjgciaaW.PrintHx
/-! ### impl_LogRecord: function 27 -/
open Go.Proofs.YtknlpjoidjgciaaW.PrintLe Go.Proofs.YtknlpjoidjgciaaW.PrintOp Go.Proofs.YtknlpjoidjgciaaW.PrintGrow Go.Proofs.YtknlpjoidjgciaaW.PrintCrc
theorem implCrc_l1 (l : List Int) (x8 : Int) : ∀ (d i k n : Nat), i + d = 8 → n < 4294967296 → impl_Crc32.l1 (k + d + 1) (n : Int) l (l.length : Int) x8 (i : Int) = impl_Crc32.l0 k ((stepN d n : Nat) : Int) l (l.length : Int) (wrap64 (x8 + 1))
  | 0, i, k, n, h1, h3 => by
    simp only [impl_Crc32.l1]
    rw [if_neg (by omega)]
    rfl
  | d + 1, i, k, n, h1, h3 => by
    have ea := and1_u32 n h3
    have e2 : (n : Int) / 2 = ((n / 2 : Nat) : Int) := by omega
    have hv : Go.bits .xor .u32 ((n : Int) / 2) (Go.bits .and .u32 3988292384 ((-(Go.bits .and .u32 (n : Int) 1)) % 4294967296)) = ((stepB n : Nat) : Int) := by
      rw [ea, e2]
      by_cases hp : n % 2 = 1
      · rw [hp, show (-((1 : Nat) : Int)) % 4294967296 = 4294967295 by omega, show Go.bits .and .u32 3988292384 4294967295 = ((3988292384 : Nat) : Int) by decide +kernel, xor_nat _ _ (by omega) (by omega)]
        simp only [stepB, if_pos hp]
      · rw [show n % 2 = 0 by omega, show (-((0 : Nat) : Int)) % 4294967296 = 0 by omega, show Go.bits .and .u32 3988292384 0 = ((0 : Nat) : Int) by decide +kernel, xor_nat _ _ (by omega) (by omega)]
        simp only [stepB, if_neg hp]
    rw [show k + (d + 1) + 1 = (k + d + 1) + 1 by omega, impl_Crc32.l1, if_pos (by omega), hv, w64n (by omega), implCrc_l1 l x8 d (i + 1) k _ (by omega) (stepB_lt h3)]
    rfl
theorem implCrc_l0 (l : List Int) (hb : ∀ x ∈ l, 0 ≤ x ∧ x ≤ 255) (hl : l.length ≤ 1048576) : ∀ (d i k n : Nat), i + d = l.length → 10 * d + 10 < k → n < 4294967296 → impl_Crc32.l0 k (n : Int) l (l.length : Int) (i : Int) = some (Go.bits .xor .u32 4294967295 ((crcI n (nats (l.drop i)) : Nat) : Int))
  | 0, i, k, n, h1, h2, h3 => by
    obtain ⟨k, rfl⟩ := sucK h2
    simp only [impl_Crc32.l0]
    rw [if_neg (by omega), List.drop_eq_nil_of_le (by omega)]
    rfl
  | d + 1, i, k, n, h1, h2, h3 => by
    obtain ⟨k, rfl⟩ : ∃ j, k = (j + 8 + 1) + 1 := ⟨k - 10, by omega⟩
    have hi : i < l.length := by omega
    have hx := hb _ (List.getElem_mem hi)
    obtain ⟨c, hc⟩ := Int.eq_ofNat_of_zero_le hx.1
    have hc8 : c < 256 := by omega
    have hlt : n ^^^ c < 2 ^ 32 := Nat.xor_lt_two_pow (by omega) (by omega)
    rw [impl_Crc32.l0]
    rw [if_pos (by omega), if_pos (by omega), if_pos (by omega), rd_some hi, hc, show (c : Int) % 4294967296 = (c : Int) by omega, xor_nat _ _ h3 (by omega)]
    have h := implCrc_l1 l (i : Int) 8 0 k (n ^^^ c) rfl (by omega)
    rw [show ((0 : Nat) : Int) = 0 from rfl] at h
    rw [h, w64n (by omega), implCrc_l0 l hb hl d (i + 1) k _ (by omega) (by omega) (stepN_lt 8 (by omega)), List.drop_eq_getElem_cons hi]
    simp only [nats, List.map_cons, hc, Int.toNat_natCast, crcI]
theorem implCrc_f (l : List Int) (hb : ∀ x ∈ l, 0 ≤ x ∧ x ≤ 255) (hl : l.length ≤ 1048576) (k : Nat) (hk : 10 * l.length + 10 < k) : impl_Crc32.f k l = some (Go.bits .xor .u32 4294967295 ((crcI 4294967295 (nats l) : Nat) : Int)) := by
  unfold impl_Crc32.f
  exact implCrc_l0 l hb hl l.length 0 k 4294967295 (by omega) hk (by omega)
theorem implCrc_v (l : List Int) (hb : ∀ x ∈ l, 0 ≤ x ∧ x ≤ 255) (hl : l.length ≤ 1048576) (k : Nat) (hk : 10 * l.length + 10 < k) : impl_Crc32.f k l = some (crcV l) := by
  have hlt := crcI_lt (nats l) (nats_byt hb) 4294967295 (by omega)
  have e : (4294967295 : Int) = ((4294967295 : Nat) : Int) := rfl
  rw [implCrc_f l hb hl k hk, e, xor_nat _ _ (by omega) hlt, Nat.xor_comm 4294967295]
  rfl
theorem impl_LogRecord.win (a b c : Int) : impl_within.f a b c = some (decide (b ≤ a ∧ a ≤ c)) := by
  unfold impl_within.f
  by_cases h : b ≤ a <;> simp [h]
def impl_LogRecord.f (a0 : Int) (a1_0 a1_1 a1_2 a1_3 a1_4 : Int) (a1_5 a1_6 : ByteArray) (l1_7 : List Int) : Option (List Int × Int) := if (∀ x ∈ l1_7, 0 ≤ x ∧ x ≤ 255) then some (if (1 ≤ a0 ∧ a0 ≤ 1099511627776) ∧ opGood a1_0 a1_3 a1_4 a1_5 a1_6 l1_7 = true then (recBytes a0 (opBytes a1_0 a1_1 a1_2 a1_3 a1_4 a1_5 a1_6 l1_7), 0) else ([], 7)) else none
set_option maxHeartbeats 8000000 in
set_option maxRecDepth 100000 in
theorem impl_LogRecord.calls (a0 : Int) (a1_0 : Int) (a1_1 : Int) (a1_2 : Int) (a1_3 : Int) (a1_4 : Int) (a1_5 : ByteArray) (a1_6 : ByteArray) (A1_7 : Option Addr) (c1_7 : Nat) (l1_7 : List Int) (r1 : List Int) (r2 : Int) (w : World) (hr1_7 : Kd.C (Kd.int .u8) w A1_7 l1_7.length l1_7) (hc1_7 : l1_7.length ≤ c1_7) (h : impl_LogRecord.f a0 a1_0 a1_1 a1_2 a1_3 a1_4 a1_5 a1_6 l1_7 = some (r1, r2)) :
    Calls Try.prog 27 #[.int .i64 a0, .agg #[.int .i64 a1_0, .int .i64 a1_1, .int .i64 a1_2, .int .i64 a1_3, .int .i64 a1_4, .string a1_5, .string a1_6, .slice A1_7 l1_7.length c1_7]] w fun e w' => ∃ v0_ : Value, e = .returned (.tuple #[v0_, .int .i64 r2]) ∧ Kd.R (Kd.int .u8) 5 w' w.heap.size (fun _ => True) v0_ r1 ∧ Below w.heap.size w w' := by
  unfold impl_LogRecord.f at h
  have HR7 := Aside0.mk hr1_7
  have HC7 := Aside0.mk hc1_7
  clear hr1_7 hc1_7
  by_cases hby : ∀ x ∈ l1_7, 0 ≤ x ∧ x ≤ 255
  case neg => rw [if_neg hby] at h; cases h
  rw [if_pos hby] at h
  have HB0 : Aside0 (Below w.heap.size w w) := ⟨Below.refl _ _⟩
  obtain ⟨s0, Sz0⟩ : ∃ s0, Aside0 (w.heap.size = s0) := ⟨_, ⟨rfl⟩⟩
  have hw0 : w.heap.size ≤ s0 := Nat.le_of_eq Sz0.out
  have hw1 : s0 ≤ w.heap.size := Nat.le_of_eq Sz0.out.symm
  by_cases c0 : 1 ≤ a0 ∧ a0 ≤ 1099511627776
  case neg =>
    rw [if_neg (fun hg => c0 hg.1)] at h
    simp only [Option.some.injEq, Prod.mk.injEq] at h
    obtain ⟨rfl, rfl⟩ := h
    have W_ := Aside0.mk (show impl_within.f a0 1 1099511627776 = some false by rw [impl_LogRecord.win, decide_eq_false c0])
    clear c0 hby
    go_enter Try.func27, Try.ntmps27
    go_wp2_with (first | ((with_reducible refine gate_dst (N := 3) rfl ?_); refine hx_box rfl 3 rfl 43 (.tmp 1) rfl Sz0 (.agg #[.int .i64 a1_0, .int .i64 a1_1, .int .i64 a1_2, .int .i64 a1_3, .int .i64 a1_4, .string a1_5, .string a1_6, .slice A1_7 l1_7.length c1_7]) #[.int .i64 a1_0, .int .i64 a1_1, .int .i64 a1_2, .int .i64 a1_3, .int .i64 a1_4, .string a1_5, .string a1_6, .slice A1_7 l1_7.length c1_7] rfl rfl ?_; intro w1 s1 L1 Sz1 b1 g_; have H_1 := Aside0.mk g_; have HB1 := Aside0.mk (below_then HB0.out HB0.out.size b1); clear g_ HB0 b1) | ((with_reducible refine gate_dst (N := 10) rfl ?_); refine goesL_ (some 10) rfl rfl Try.func31 (by kernel_rfl) rfl #[.int .i64 a0, .int .i64 1, .int .i64 1099511627776] rfl (by (try simp only [List.map_toArray, List.map_cons, List.map_nil]); first | done | rfl) ?_; refine (impl_within.calls a0 1 1099511627776 false _ W_.out).mono ?_; rintro e_ w2 ⟨rfl, d_⟩; refine ⟨_, rfl, ?_⟩; have b_ := kept_drawn d_; clear d_; have HB2 := Aside0.mk (below_then HB1.out HB1.out.size b_); have H_2 := Aside0.mk (blk_below H_1.out b_); clear b_ HB1 H_1))
    go_ret2
    exact ⟨_, rfl, Kd.R_nil _ _ _ _ _, HB2.out⟩
  have W_ := Aside0.mk (show impl_within.f a0 1 1099511627776 = some true by rw [impl_LogRecord.win, decide_eq_true c0])
  by_cases c1 : opGood a1_0 a1_3 a1_4 a1_5 a1_6 l1_7 = true
  case neg =>
    rw [if_neg (fun hg => c1 hg.2)] at h
    simp only [Option.some.injEq, Prod.mk.injEq] at h
    obtain ⟨rfl, rfl⟩ := h
    have EO := Aside0.mk (show impl_EncodeOp.f a1_0 a1_1 a1_2 a1_3 a1_4 a1_5 a1_6 l1_7 = some ([], 7) by unfold impl_EncodeOp.f; rw [if_neg c1])
    clear c0 c1 hby
    go_enter Try.func27, Try.ntmps27
    go_wp2_with (first | ((with_reducible refine gate_dst (N := 3) rfl ?_); refine hx_box rfl 3 rfl 43 (.tmp 1) rfl Sz0 (.agg #[.int .i64 a1_0, .int .i64 a1_1, .int .i64 a1_2, .int .i64 a1_3, .int .i64 a1_4, .string a1_5, .string a1_6, .slice A1_7 l1_7.length c1_7]) #[.int .i64 a1_0, .int .i64 a1_1, .int .i64 a1_2, .int .i64 a1_3, .int .i64 a1_4, .string a1_5, .string a1_6, .slice A1_7 l1_7.length c1_7] rfl rfl ?_; intro w1 s1 L1 Sz1 b1 g_; have H_1 := Aside0.mk g_; have HB1 := Aside0.mk (below_then HB0.out HB0.out.size b1); clear g_ HB0 b1) | ((with_reducible refine gate_dst (N := 10) rfl ?_); refine goesL_ (some 10) rfl rfl Try.func31 (by kernel_rfl) rfl #[.int .i64 a0, .int .i64 1, .int .i64 1099511627776] rfl (by (try simp only [List.map_toArray, List.map_cons, List.map_nil]); first | done | rfl) ?_; refine (impl_within.calls a0 1 1099511627776 true _ W_.out).mono ?_; rintro e_ w2 ⟨rfl, d_⟩; refine ⟨_, rfl, ?_⟩; have b_ := kept_drawn d_; clear d_; have HB2 := Aside0.mk (below_then HB1.out HB1.out.size b_); have H_2 := Aside0.mk (blk_below H_1.out b_); clear b_ HB1 H_1) | ((with_reducible refine gate_dst (N := 13) rfl ?_); refine hx_load rfl 43 (.tmp 3) rfl s0 8 rfl Try.underlying43 rfl (by kernel_rfl) H_2.out rfl ?_) | ((with_reducible refine gate_dst (N := 14) rfl ?_); refine goesL_ (some 14) rfl rfl Try.func20 (by kernel_rfl) rfl #[.agg #[.int .i64 a1_0, .int .i64 a1_1, .int .i64 a1_2, .int .i64 a1_3, .int .i64 a1_4, .string a1_5, .string a1_6, .slice A1_7 l1_7.length c1_7]] rfl (by (try simp only [List.map_toArray, List.map_cons, List.map_nil]); first | done | rfl) ?_; refine (impl_EncodeOp.calls a1_0 a1_1 a1_2 a1_3 a1_4 a1_5 a1_6 A1_7 c1_7 l1_7 [] 7 w2 (Kd.C_below HR7.out HB2.out) HC7.out EO.out).mono ?_; rintro e_ w3 ⟨v_, rfl, R_, b_⟩; obtain ⟨A14, c14, rfl⟩ := Kd.R_slice R_; refine ⟨_, rfl, ?_⟩; have O14_3 := Aside0.mk (Kd.R_lower R_ HB2.out.size); clear R_; have HB3 := Aside0.mk (below_then HB2.out HB2.out.size b_); clear b_ H_2 HB2))
    go_ret2
    exact ⟨_, rfl, Kd.R_nil _ _ _ _ _, HB3.out⟩
  rw [if_pos ⟨c0, c1⟩] at h
  simp only [Option.some.injEq, Prod.mk.injEq] at h
  obtain ⟨rfl, rfl⟩ := h
  have EO := Aside0.mk (show impl_EncodeOp.f a1_0 a1_1 a1_2 a1_3 a1_4 a1_5 a1_6 l1_7 = some (opBytes a1_0 a1_1 a1_2 a1_3 a1_4 a1_5 a1_6 l1_7, 0) by unfold impl_EncodeOp.f; rw [if_pos c1])
  have hob := opBytes_byt (a := a1_0) (b := a1_1) (c := a1_2) (u := a1_3) (g := a1_4) (p := a1_5) (q := a1_6) hby
  have hol : (opBytes a1_0 a1_1 a1_2 a1_3 a1_4 a1_5 a1_6 l1_7).length ≤ 8192 := by have h_ := opGood_get c1; rw [opBytes_length]; omega
  clear c1 hby
  obtain ⟨ob, hobe⟩ : ∃ ob, ob = opBytes a1_0 a1_1 a1_2 a1_3 a1_4 a1_5 a1_6 l1_7 := ⟨_, rfl⟩
  rw [← hobe] at hob hol EO ⊢
  obtain ⟨hd, hhd⟩ : ∃ hd, hd = recHead a0 ob := ⟨_, rfl⟩
  have hhl : hd.length = 12 := by rw [hhd]; exact recHead_length
  have hhb : Byt hd := by rw [hhd]; exact recHead_byt
  obtain ⟨hb, hhb2⟩ : ∃ hb, hb = ([hd, ob] : List (List Int)).flatten := ⟨_, rfl⟩
  have hbl : hb.length = 12 + ob.length := by rw [hhb2]; simp [hhl]
  have hbb : Byt hb := by rw [hhb2]; simpa using byt_append hhb hob
  obtain ⟨cv, hcv⟩ : ∃ cv, cv = crcV hb := ⟨_, rfl⟩
  have hcr : 0 ≤ cv ∧ cv < 4294967296 := by rw [hcv]; exact crcV_range hbb
  have hcw : wrap64 cv = cv := by unfold wrap64; omega
  obtain ⟨rc, hrc⟩ : ∃ rc, rc = ([hd, leB cv 4, ob] : List (List Int)).flatten := ⟨_, rfl⟩
  have hre : recBytes a0 ob = rc := by rw [hrc, hcv, hhb2, hhd]; rfl
  have hrl : rc.length = 16 + ob.length := by rw [← hre]; exact recBytes_length
  rw [hre]
  obtain ⟨kc, hkc⟩ : ∃ kc : Nat, 10 * hb.length + 10 < kc := ⟨_, Nat.lt_succ_self _⟩
  have E1 := Aside0.mk (show impl_laid.f 20 a0 8 = some (leB a0 8) from laid_f a0 8 (by decide) 20 (by decide))
  have E2 := Aside0.mk (show impl_laid.f 20 ((ob.length : Nat) : Int) 4 = some (leB ((ob.length : Nat) : Int) 4) from laid_f ((ob.length : Nat) : Int) 4 (by decide) 20 (by decide))
  have hh0 : hd = ([leB a0 8, leB ((ob.length : Nat) : Int) 4] : List (List Int)).flatten := hhd
  have J1 := Aside0.mk (show impl_joined.f [leB a0 8, leB ((ob.length : Nat) : Int) 4] = some hd by unfold impl_joined.f slices_Concat_byte_byte.f; rw [if_pos ⟨by simp, by rw [sumL_flatten, ← hh0]; omega⟩, ← hh0]; rfl)
  have J2 := Aside0.mk (show impl_joined.f [hd, ob] = some hb by unfold impl_joined.f slices_Concat_byte_byte.f; rw [if_pos ⟨by simp, by rw [sumL_flatten, ← hhb2]; omega⟩, ← hhb2]; rfl)
  have EC := Aside0.mk (show impl_Crc32.f kc hb = some cv by rw [hcv]; exact implCrc_v hb hbb (by omega) kc (by omega))
  have E4 := Aside0.mk (show impl_laid.f 20 cv 4 = some (leB cv 4) from laid_f cv 4 (by decide) 20 (by decide))
  have J3 := Aside0.mk (show impl_joined.f [hd, leB cv 4, ob] = some rc by unfold impl_joined.f slices_Concat_byte_byte.f; rw [if_pos ⟨by simp, by rw [sumL_flatten, ← hrc]; omega⟩, ← hrc]; rfl)
  have HCW := Aside0.mk hcw
  clear hobe hob hol hhd hhl hhb hhb2 hbl hbb hcv hcr hcw hrc hre hrl hkc hh0 c0
  go_enter Try.func27, Try.ntmps27
  go_wp2_with (first | ((with_reducible refine gate_dst (N := 3) rfl ?_); refine hx_box rfl 3 rfl 43 (.tmp 1) rfl Sz0 (.agg #[.int .i64 a1_0, .int .i64 a1_1, .int .i64 a1_2, .int .i64 a1_3, .int .i64 a1_4, .string a1_5, .string a1_6, .slice A1_7 l1_7.length c1_7]) #[.int .i64 a1_0, .int .i64 a1_1, .int .i64 a1_2, .int .i64 a1_3, .int .i64 a1_4, .string a1_5, .string a1_6, .slice A1_7 l1_7.length c1_7] rfl rfl ?_; intro w1 s1 L1 Sz1 b1 g_; have H_1 := Aside0.mk g_; have HB1 := Aside0.mk (below_then HB0.out HB0.out.size b1); clear g_ HB0 b1) | ((with_reducible refine gate_dst (N := 10) rfl ?_); refine goesL_ (some 10) rfl rfl Try.func31 (by kernel_rfl) rfl #[.int .i64 a0, .int .i64 1, .int .i64 1099511627776] rfl (by (try simp only [List.map_toArray, List.map_cons, List.map_nil]); first | done | rfl) ?_; refine (impl_within.calls a0 1 1099511627776 true _ W_.out).mono ?_; rintro e_ w2 ⟨rfl, d_⟩; refine ⟨_, rfl, ?_⟩; have b_ := kept_drawn d_; clear d_; have HB2 := Aside0.mk (below_then HB1.out HB1.out.size b_); have H_2 := Aside0.mk (blk_below H_1.out b_); clear b_ HB1 H_1) | ((with_reducible refine gate_dst (N := 13) rfl ?_); refine hx_load rfl 43 (.tmp 3) rfl s0 8 rfl Try.underlying43 rfl (by kernel_rfl) H_2.out rfl ?_) | ((with_reducible refine gate_dst (N := 14) rfl ?_); refine goesL_ (some 14) rfl rfl Try.func20 (by kernel_rfl) rfl #[.agg #[.int .i64 a1_0, .int .i64 a1_1, .int .i64 a1_2, .int .i64 a1_3, .int .i64 a1_4, .string a1_5, .string a1_6, .slice A1_7 l1_7.length c1_7]] rfl (by (try simp only [List.map_toArray, List.map_cons, List.map_nil]); first | done | rfl) ?_; refine (impl_EncodeOp.calls a1_0 a1_1 a1_2 a1_3 a1_4 a1_5 a1_6 A1_7 c1_7 l1_7 ob 0 w2 (Kd.C_below HR7.out HB2.out) HC7.out EO.out).mono ?_; rintro e_ w3 ⟨v_, rfl, R_, b_⟩; obtain ⟨A14, c14, rfl⟩ := Kd.R_slice R_; refine ⟨_, rfl, ?_⟩; have O14_3 := Aside0.mk (Kd.R_lower R_ HB2.out.size); clear R_; have HB3 := Aside0.mk (below_then HB2.out HB2.out.size b_); clear b_ H_2 HB2) | ((with_reducible refine gate_dst (N := 21) rfl ?_); refine goesL_ (some 21) rfl rfl Try.func40 (by kernel_rfl) rfl #[.int .i64 a0, .int .i64 8] rfl (by (try simp only [List.map_toArray, List.map_cons, List.map_nil]); first | done | rfl) ?_; refine (impl_laid.calls 20 a0 8 (leB a0 8) w3 E1.out).mono ?_; rintro e_ w4 ⟨v_, rfl, R_, b_⟩; obtain ⟨A21, c21, rfl⟩ := Kd.R_slice R_; refine ⟨_, rfl, ?_⟩; have O21_4 := Aside0.mk (Kd.R_lower R_ HB3.out.size); clear R_; have HB4 := Aside0.mk (below_then HB3.out HB3.out.size b_); have O14_4 := Aside0.mk (Kd.R_below O14_3.out b_); clear b_ HB3 O14_3) | ((with_reducible refine gate_dst (N := 24) rfl ?_); refine goesL_ (some 24) rfl rfl Try.func40 (by kernel_rfl) rfl #[.int .i64 ((ob.length : Nat) : Int), .int .i64 4] rfl (by (try simp only [List.map_toArray, List.map_cons, List.map_nil]); first | done | rfl) ?_; refine (impl_laid.calls 20 ((ob.length : Nat) : Int) 4 (leB ((ob.length : Nat) : Int) 4) w4 E2.out).mono ?_; rintro e_ w5 ⟨v_, rfl, R_, b_⟩; obtain ⟨A24, c24, rfl⟩ := Kd.R_slice R_; refine ⟨_, rfl, ?_⟩; have O24_5 := Aside0.mk (Kd.R_lower R_ HB4.out.size); clear R_; have HB5 := Aside0.mk (below_then HB4.out HB4.out.size b_); have O14_5 := Aside0.mk (Kd.R_below O14_4.out b_); have O21_5 := Aside0.mk (Kd.R_below O21_4.out b_); clear b_ HB4 O14_4 O21_4) | ((with_reducible refine gate_dst (N := 25) rfl ?_); refine wpList_rows rfl (N := 25) rfl (Kd.int .u8) 5 22 [(.slice A21 (leB a0 8).length c21), (.slice A24 (leB ((ob.length : Nat) : Int) 4).length c24)] [(leB a0 8), (leB ((ob.length : Nat) : Int) 4)] (by simp) ?hr (rows_cons ⟨_, _, rfl, (Kd.R_reads' O21_5.out).2.1, (Kd.R_reads' O21_5.out).2.2⟩ (rows_cons ⟨_, _, rfl, (Kd.R_reads' O24_5.out).2.1, (Kd.R_reads' O24_5.out).2.2⟩ (rows_nil))) ?_; (case hr => first | (go_simp; done) | (go_simp; rfl)); intro A25 c25 w6 h25 C_ b_; have C25_6 := Aside0.mk C_; clear C_; have HB6 := Aside0.mk (below_then HB5.out HB5.out.size b_); have O14_6 := Aside0.mk (Kd.R_below O14_5.out b_); have O21_6 := Aside0.mk (Kd.R_below O21_5.out b_); have O24_6 := Aside0.mk (Kd.R_below O24_5.out b_); clear b_ HB5 O14_5 O21_5 O24_5) | ((with_reducible refine gate_dst (N := 26) rfl ?_); refine goesL_ (some 26) rfl rfl Try.func39 (by kernel_rfl) rfl #[.slice A25 ([leB a0 8, leB ((ob.length : Nat) : Int) 4] : List (List Int)).length c25] rfl (by (try simp only [List.map_toArray, List.map_cons, List.map_nil]); first | done | rfl) ?_; refine (impl_joined.calls A25 c25 [leB a0 8, leB ((ob.length : Nat) : Int) 4] hd w6 C25_6.out h25 J1.out).mono ?_; rintro e_ w7 ⟨v_, rfl, R_, b_⟩; obtain ⟨A26, c26, rfl⟩ := Kd.R_slice R_; refine ⟨_, rfl, ?_⟩; have O26_7 := Aside0.mk (Kd.R_lower R_ HB6.out.size); clear R_; have HB7 := Aside0.mk (below_then HB6.out HB6.out.size b_); have O14_7 := Aside0.mk (Kd.R_below O14_6.out b_); have O21_7 := Aside0.mk (Kd.R_below O21_6.out b_); have O24_7 := Aside0.mk (Kd.R_below O24_6.out b_); have C25_7 := Aside0.mk (Kd.C_below C25_6.out b_); clear b_ HB6 O14_6 O21_6 O24_6 C25_6) | ((with_reducible refine gate_dst (N := 30) rfl ?_); refine wpList_rows rfl (N := 30) rfl (Kd.int .u8) 5 22 [(.slice A26 hd.length c26), (.slice A14 ob.length c14)] [hd, ob] (by simp) ?hr (rows_cons ⟨_, _, rfl, (Kd.R_reads' O26_7.out).2.1, (Kd.R_reads' O26_7.out).2.2⟩ (rows_cons ⟨_, _, rfl, (Kd.R_reads' O14_7.out).2.1, (Kd.R_reads' O14_7.out).2.2⟩ (rows_nil))) ?_; (case hr => first | (go_simp; done) | (go_simp; rfl)); intro A30 c30 w8 h30 C_ b_; have C30_8 := Aside0.mk C_; clear C_; have HB8 := Aside0.mk (below_then HB7.out HB7.out.size b_); have O14_8 := Aside0.mk (Kd.R_below O14_7.out b_); have O21_8 := Aside0.mk (Kd.R_below O21_7.out b_); have O24_8 := Aside0.mk (Kd.R_below O24_7.out b_); have C25_8 := Aside0.mk (Kd.C_below C25_7.out b_); have O26_8 := Aside0.mk (Kd.R_below O26_7.out b_); clear b_ HB7 O14_7 O21_7 O24_7 C25_7 O26_7) | ((with_reducible refine gate_dst (N := 31) rfl ?_); refine goesL_ (some 31) rfl rfl Try.func39 (by kernel_rfl) rfl #[.slice A30 ([hd, ob] : List (List Int)).length c30] rfl (by (try simp only [List.map_toArray, List.map_cons, List.map_nil]); first | done | rfl) ?_; refine (impl_joined.calls A30 c30 [hd, ob] hb w8 C30_8.out h30 J2.out).mono ?_; rintro e_ w9 ⟨v_, rfl, R_, b_⟩; obtain ⟨A31, c31, rfl⟩ := Kd.R_slice R_; refine ⟨_, rfl, ?_⟩; have O31_9 := Aside0.mk (Kd.R_lower R_ HB8.out.size); clear R_; have HB9 := Aside0.mk (below_then HB8.out HB8.out.size b_); have O14_9 := Aside0.mk (Kd.R_below O14_8.out b_); have O21_9 := Aside0.mk (Kd.R_below O21_8.out b_); have O24_9 := Aside0.mk (Kd.R_below O24_8.out b_); have C25_9 := Aside0.mk (Kd.C_below C25_8.out b_); have O26_9 := Aside0.mk (Kd.R_below O26_8.out b_); have C30_9 := Aside0.mk (Kd.C_below C30_8.out b_); clear b_ HB8 O14_8 O21_8 O24_8 C25_8 O26_8 C30_8) | ((with_reducible refine gate_dst (N := 32) rfl ?_); refine goesL_ (some 32) rfl rfl Try.func42 (by kernel_rfl) rfl #[.slice A31 hb.length c31] rfl (by (try simp only [List.map_toArray, List.map_cons, List.map_nil]); first | done | rfl) ?_; refine (impl_Crc32.calls kc A31 c31 hb cv w9 (Kd.R_reads' O31_9.out).2.2 (Kd.R_reads' O31_9.out).2.1 EC.out).mono ?_; rintro e_ w10 ⟨rfl, dd_⟩; refine ⟨_, rfl, ?_⟩; have b_ := kept_drawn dd_; clear dd_; have HB10 := Aside0.mk (below_then HB9.out HB9.out.size b_); have O14_10 := Aside0.mk (Kd.R_below O14_9.out b_); have O21_10 := Aside0.mk (Kd.R_below O21_9.out b_); have O24_10 := Aside0.mk (Kd.R_below O24_9.out b_); have C25_10 := Aside0.mk (Kd.C_below C25_9.out b_); have O26_10 := Aside0.mk (Kd.R_below O26_9.out b_); have C30_10 := Aside0.mk (Kd.C_below C30_9.out b_); have O31_10 := Aside0.mk (Kd.R_below O31_9.out b_); clear b_ HB9 O14_9 O21_9 O24_9 C25_9 O26_9 C30_9 O31_9) | ((with_reducible refine gate_dst (N := 34) rfl ?_); refine goesL_ (some 34) rfl rfl Try.func40 (by kernel_rfl) rfl #[.int .i64 (wrap64 cv), .int .i64 4] rfl (by (try simp only [List.map_toArray, List.map_cons, List.map_nil]); first | done | rfl) ?_; rw [HCW.out]; refine (impl_laid.calls 20 cv 4 (leB cv 4) w10 E4.out).mono ?_; rintro e_ w11 ⟨v_, rfl, R_, b_⟩; obtain ⟨A34, c34, rfl⟩ := Kd.R_slice R_; refine ⟨_, rfl, ?_⟩; have O34_11 := Aside0.mk (Kd.R_lower R_ HB10.out.size); clear R_; have HB11 := Aside0.mk (below_then HB10.out HB10.out.size b_); have O14_11 := Aside0.mk (Kd.R_below O14_10.out b_); have O21_11 := Aside0.mk (Kd.R_below O21_10.out b_); have O24_11 := Aside0.mk (Kd.R_below O24_10.out b_); have C25_11 := Aside0.mk (Kd.C_below C25_10.out b_); have O26_11 := Aside0.mk (Kd.R_below O26_10.out b_); have C30_11 := Aside0.mk (Kd.C_below C30_10.out b_); have O31_11 := Aside0.mk (Kd.R_below O31_10.out b_); clear b_ HB10 O14_10 O21_10 O24_10 C25_10 O26_10 C30_10 O31_10) | ((with_reducible refine gate_dst (N := 36) rfl ?_); refine wpList_rows rfl (N := 36) rfl (Kd.int .u8) 5 22 [(.slice A26 hd.length c26), (.slice A34 (leB cv 4).length c34), (.slice A14 ob.length c14)] [hd, (leB cv 4), ob] (by simp) ?hr (rows_cons ⟨_, _, rfl, (Kd.R_reads' O26_11.out).2.1, (Kd.R_reads' O26_11.out).2.2⟩ (rows_cons ⟨_, _, rfl, (Kd.R_reads' O34_11.out).2.1, (Kd.R_reads' O34_11.out).2.2⟩ (rows_cons ⟨_, _, rfl, (Kd.R_reads' O14_11.out).2.1, (Kd.R_reads' O14_11.out).2.2⟩ (rows_nil)))) ?_; (case hr => first | (go_simp; done) | (go_simp; rfl)); intro A36 c36 w12 h36 C_ b_; have C36_12 := Aside0.mk C_; clear C_; have HB12 := Aside0.mk (below_then HB11.out HB11.out.size b_); have O14_12 := Aside0.mk (Kd.R_below O14_11.out b_); have O21_12 := Aside0.mk (Kd.R_below O21_11.out b_); have O24_12 := Aside0.mk (Kd.R_below O24_11.out b_); have C25_12 := Aside0.mk (Kd.C_below C25_11.out b_); have O26_12 := Aside0.mk (Kd.R_below O26_11.out b_); have C30_12 := Aside0.mk (Kd.C_below C30_11.out b_); have O31_12 := Aside0.mk (Kd.R_below O31_11.out b_); have O34_12 := Aside0.mk (Kd.R_below O34_11.out b_); clear b_ HB11 O14_11 O21_11 O24_11 C25_11 O26_11 C30_11 O31_11 O34_11) | ((with_reducible refine gate_dst (N := 37) rfl ?_); refine goesL_ (some 37) rfl rfl Try.func39 (by kernel_rfl) rfl #[.slice A36 ([hd, leB cv 4, ob] : List (List Int)).length c36] rfl (by (try simp only [List.map_toArray, List.map_cons, List.map_nil]); first | done | rfl) ?_; refine (impl_joined.calls A36 c36 [hd, leB cv 4, ob] rc w12 C36_12.out h36 J3.out).mono ?_; rintro e_ w13 ⟨v_, rfl, R_, b_⟩; obtain ⟨A37, c37, rfl⟩ := Kd.R_slice R_; refine ⟨_, rfl, ?_⟩; have O37_13 := Aside0.mk (Kd.R_lower R_ HB12.out.size); clear R_; have HB13 := Aside0.mk (below_then HB12.out HB12.out.size b_); have O14_13 := Aside0.mk (Kd.R_below O14_12.out b_); have O21_13 := Aside0.mk (Kd.R_below O21_12.out b_); have O24_13 := Aside0.mk (Kd.R_below O24_12.out b_); have C25_13 := Aside0.mk (Kd.C_below C25_12.out b_); have O26_13 := Aside0.mk (Kd.R_below O26_12.out b_); have C30_13 := Aside0.mk (Kd.C_below C30_12.out b_); have O31_13 := Aside0.mk (Kd.R_below O31_12.out b_); have O34_13 := Aside0.mk (Kd.R_below O34_12.out b_); have C36_13 := Aside0.mk (Kd.C_below C36_12.out b_); clear b_ HB12 O14_12 O21_12 O24_12 C25_12 O26_12 C30_12 O31_12 O34_12 C36_12))
  go_ret2
  exact ⟨_, rfl, O37_13.out, HB13.out⟩

end Go.Proofs.Ytknlpjoidjgciaa.PFnExactLogRecord
