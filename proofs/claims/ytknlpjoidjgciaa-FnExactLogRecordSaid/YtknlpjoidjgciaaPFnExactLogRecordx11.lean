-- Written by a program of this session (patch_print.py over the kit print)
import Derived.Test.YtknlpjoidjgciaaPFnExactLogRecordx0
import Derived.Test.YtknlpjoidjgciaaPFnExactLogRecordx6
import Derived.Test.YtknlpjoidjgciaaPFnExactLogRecordx7
import Derived.Test.YtknlpjoidjgciaaPFnExactLogRecordx8
import Derived.Test.YtknlpjoidjgciaaPFnExactLogRecordx9
import Derived.Test.YtknlpjoidjgciaaPFnExactLogRecordx10
namespace Go.Proofs.Ytknlpjoidjgciaa.PFnExactLogRecord
open Go.RowKit Go.Proofs.YtknlpjoidjgciaaW.PrintWords Go.Proofs.YtknlpjoidjgciaaW.PrintLast Go.Proofs.YtknlpjoidjgciaaW.PrintMore
attribute [local go_sem] max2_int min2_int max_two min_two max_three min_three max_four min_four   -- for this text's walks alone
set_option linter.unusedVariables false
set_option linter.unusedSimpArgs false

open Go.Proofs.YtknlpjoidjgciaaW Go.Proofs.YtknlpjoidjgciaaW.PrintHand Go.Proofs.YtknlpjoidjgciaaW.PrintHx
/-! ### spec_LogRecord: function 26 -/
open Go.Proofs.YtknlpjoidjgciaaW.PrintLe Go.Proofs.YtknlpjoidjgciaaW.PrintOp Go.Proofs.YtknlpjoidjgciaaW.PrintGrow Go.Proofs.YtknlpjoidjgciaaW.PrintCrc
theorem table_l0 : ∀ (d i k n : Nat), i + d = 8 → d < k → n < 4294967296 → spec_l02Table.l0 k (n : Int) (i : Int) = some ((stepN d n : Nat) : Int)
  | 0, i, k, n, h1, h2, h3 => by
    obtain ⟨k, rfl⟩ := sucK h2
    simp only [spec_l02Table.l0]
    rw [if_neg (by omega)]
    rfl
  | d + 1, i, k, n, h1, h2, h3 => by
    obtain ⟨k, rfl⟩ := sucK h2
    have e1 : Int.tmod (n : Int) 2 = ((n % 2 : Nat) : Int) := by rw [Int.tmod_eq_emod_of_nonneg (by omega)]; omega
    have e2 : Int.tdiv (n : Int) 2 % 4294967296 = ((n / 2 : Nat) : Int) := by rw [Int.tdiv_eq_ediv_of_nonneg (by omega)]; omega
    have e3 : (3988292384 : Int) = ((3988292384 : Nat) : Int) := rfl
    simp only [spec_l02Table.l0]
    rw [if_pos (by omega), e1, e2, w64n (by omega)]
    by_cases hp : n % 2 = 1
    · rw [if_pos (by omega), e3, xor_nat _ _ (by omega) (by omega), table_l0 d (i + 1) k _ (by omega) (by omega) (by have := stepB_lt h3; unfold stepB at this; rw [if_pos hp] at this; exact this)]
      simp only [stepN, stepB, if_pos hp]
    · rw [if_neg (by omega), table_l0 d (i + 1) k _ (by omega) (by omega) (by omega)]
      simp only [stepN, stepB, if_neg hp, Nat.xor_zero]
theorem table_f (n k : Nat) (hk : 8 < k) (hn : n < 4294967296) : spec_l02Table.f k (n : Int) = some ((stepN 8 n : Nat) : Int) := table_l0 8 0 k n rfl hk hn
theorem specCrc_l0 (l : List Int) (hb : ∀ x ∈ l, 0 ≤ x ∧ x ≤ 255) (hl : l.length ≤ 1048576) : ∀ (d i k n : Nat), i + d = l.length → d + 10 < k → n < 4294967296 → spec_Crc32.l0 k (n : Int) l (l.length : Int) (i : Int) = some (Go.bits .xor .u32 ((crcS n (nats (l.drop i)) : Nat) : Int) 4294967295)
  | 0, i, k, n, h1, h2, h3 => by
    obtain ⟨k, rfl⟩ := sucK h2
    simp only [spec_Crc32.l0]
    rw [if_neg (by omega), List.drop_eq_nil_of_le (by omega)]
    rfl
  | d + 1, i, k, n, h1, h2, h3 => by
    obtain ⟨k, rfl⟩ := sucK h2
    have hi : i < l.length := by omega
    have hx := hb _ (List.getElem_mem hi)
    obtain ⟨c, hc⟩ := Int.eq_ofNat_of_zero_le hx.1
    have hc8 : c < 256 := by omega
    simp only [spec_Crc32.l0]
    have hlt : n ^^^ c < 2 ^ 32 := Nat.xor_lt_two_pow (by omega) (by omega)
    rw [if_pos (by omega), if_pos (by omega), if_pos (by omega), rd_some hi, hc, show (c : Int) % 4294967296 = (c : Int) by omega, xor_nat _ _ h3 (by omega), Int.tmod_eq_emod_of_nonneg (by omega), show (((n ^^^ c : Nat) : Int) % 256) = (((n ^^^ c) % 256 : Nat) : Int) by omega, table_f _ k (by omega) (by omega), Option.bind_some, Int.tdiv_eq_ediv_of_nonneg (by omega), show ((n : Int) / 256 % 4294967296) = ((n / 256 : Nat) : Int) by omega, xor_nat _ _ (by omega) (stepN_lt 8 (by omega)), w64n (by omega), specCrc_l0 l hb hl d (i + 1) k _ (by omega) (by omega) (by rw [byte_step n c hc8]; exact stepN_lt 8 (by omega)), List.drop_eq_getElem_cons hi]
    simp only [nats, List.map_cons, hc, Int.toNat_natCast, crcS]
theorem specCrc_f (l : List Int) (hb : ∀ x ∈ l, 0 ≤ x ∧ x ≤ 255) (hl : l.length ≤ 1048576) (k : Nat) (hk : l.length + 10 < k) : spec_Crc32.f k l = some (Go.bits .xor .u32 ((crcS 4294967295 (nats l) : Nat) : Int) 4294967295) := by
  unfold spec_Crc32.f
  exact specCrc_l0 l hb hl l.length 0 k 4294967295 (by omega) hk (by omega)
theorem specCrc_v (l : List Int) (hb : ∀ x ∈ l, 0 ≤ x ∧ x ≤ 255) (hl : l.length ≤ 1048576) (k : Nat) (hk : l.length + 10 < k) : spec_Crc32.f k l = some (crcV l) := by
  have hlt := crcI_lt (nats l) (nats_byt hb) 4294967295 (by omega)
  have e : (4294967295 : Int) = ((4294967295 : Nat) : Int) := rfl
  rw [specCrc_f l hb hl k hk, crc_eq _ (nats_byt hb), e, xor_nat _ _ hlt (by omega)]
  rfl
theorem spec_LogRecord.win (a b c : Int) : spec_l02Within.f a b c = some (decide (b ≤ a ∧ a ≤ c)) := by
  unfold spec_l02Within.f
  by_cases h : b ≤ a <;> simp [h]
def spec_LogRecord.f (a0 : Int) (a1_0 a1_1 a1_2 a1_3 a1_4 : Int) (a1_5 a1_6 : ByteArray) (l1_7 : List Int) : Option (List Int × Int) := if (∀ x ∈ l1_7, 0 ≤ x ∧ x ≤ 255) then some (if (1 ≤ a0 ∧ a0 ≤ 1099511627776) ∧ opGood a1_0 a1_3 a1_4 a1_5 a1_6 l1_7 = true then (recBytes a0 (opBytes a1_0 a1_1 a1_2 a1_3 a1_4 a1_5 a1_6 l1_7), 0) else ([], 7)) else none
set_option maxHeartbeats 8000000 in
set_option maxRecDepth 100000 in
theorem spec_LogRecord.calls (a0 : Int) (a1_0 : Int) (a1_1 : Int) (a1_2 : Int) (a1_3 : Int) (a1_4 : Int) (a1_5 : ByteArray) (a1_6 : ByteArray) (A1_7 : Option Addr) (c1_7 : Nat) (l1_7 : List Int) (r1 : List Int) (r2 : Int) (w : World) (hr1_7 : Kd.C (Kd.int .u8) w A1_7 l1_7.length l1_7) (hc1_7 : l1_7.length ≤ c1_7) (h : spec_LogRecord.f a0 a1_0 a1_1 a1_2 a1_3 a1_4 a1_5 a1_6 l1_7 = some (r1, r2)) :
    Calls Try.prog 26 #[.int .i64 a0, .agg #[.int .i64 a1_0, .int .i64 a1_1, .int .i64 a1_2, .int .i64 a1_3, .int .i64 a1_4, .string a1_5, .string a1_6, .slice A1_7 l1_7.length c1_7]] w fun e w' => ∃ v0_ : Value, e = .returned (.tuple #[v0_, .int .i64 r2]) ∧ Kd.R (Kd.int .u8) 5 w' w.heap.size (fun _ => True) v0_ r1 ∧ Below w.heap.size w w' := by
  unfold spec_LogRecord.f at h
  have HR7 := Aside0.mk hr1_7
  have HC7 := Aside0.mk hc1_7
  clear hr1_7 hc1_7
  by_cases hby : ∀ x ∈ l1_7, 0 ≤ x ∧ x ≤ 255
  case neg => rw [if_neg hby] at h; cases h
  rw [if_pos hby] at h
  have HB0 : Aside0 (Below w.heap.size w w) := ⟨Below.refl _ _⟩
  obtain ⟨s0, Sz0⟩ : ∃ s0, Aside0 (w.heap.size = s0) := ⟨_, ⟨rfl⟩⟩
  have hw0 : w.heap.size ≤ s0 := Nat.le_of_eq Sz0.out
  have hw1 : s0 ≤ w.heap.size := Nat.le_of_eq Sz0.out.symm
  by_cases c0 : 1 ≤ a0 ∧ a0 ≤ 1099511627776
  case neg =>
    rw [if_neg (fun hg => c0 hg.1)] at h
    simp only [Option.some.injEq, Prod.mk.injEq] at h
    obtain ⟨rfl, rfl⟩ := h
    have W_ := Aside0.mk (show spec_l02Within.f a0 1 1099511627776 = some false by rw [spec_LogRecord.win, decide_eq_false c0])
    clear c0 hby
    go_enter Try.func26, Try.ntmps26
    go_wp2_with (first | ((with_reducible refine gate_dst (N := 3) rfl ?_); refine hx_box rfl 3 rfl 43 (.tmp 1) rfl Sz0 (.agg #[.int .i64 a1_0, .int .i64 a1_1, .int .i64 a1_2, .int .i64 a1_3, .int .i64 a1_4, .string a1_5, .string a1_6, .slice A1_7 l1_7.length c1_7]) #[.int .i64 a1_0, .int .i64 a1_1, .int .i64 a1_2, .int .i64 a1_3, .int .i64 a1_4, .string a1_5, .string a1_6, .slice A1_7 l1_7.length c1_7] rfl rfl ?_; intro w1 s1 L1 Sz1 b1 g_; have H_1 := Aside0.mk g_; have HB1 := Aside0.mk (below_then HB0.out HB0.out.size b1); clear g_ HB0 b1) | ((with_reducible refine gate_dst (N := 11) rfl ?_); refine goesL_ (some 11) rfl rfl Try.func35 (by kernel_rfl) rfl #[.int .i64 a0, .int .i64 1, .int .i64 1099511627776] rfl (by (try simp only [List.map_toArray, List.map_cons, List.map_nil]); first | done | rfl) ?_; refine (spec_l02Within.calls a0 1 1099511627776 false _ W_.out).mono ?_; rintro e_ w2 ⟨rfl, d_⟩; refine ⟨_, rfl, ?_⟩; have b_ := kept_drawn d_; clear d_; have HB2 := Aside0.mk (below_then HB1.out HB1.out.size b_); have H_2 := Aside0.mk (blk_below H_1.out b_); clear b_ HB1 H_1))
    go_ret2
    exact ⟨_, rfl, Kd.R_nil _ _ _ _ _, HB2.out⟩
  have W_ := Aside0.mk (show spec_l02Within.f a0 1 1099511627776 = some true by rw [spec_LogRecord.win, decide_eq_true c0])
  by_cases c1 : opGood a1_0 a1_3 a1_4 a1_5 a1_6 l1_7 = true
  case neg =>
    rw [if_neg (fun hg => c1 hg.2)] at h
    simp only [Option.some.injEq, Prod.mk.injEq] at h
    obtain ⟨rfl, rfl⟩ := h
    have EO := Aside0.mk (show spec_EncodeOp.f a1_0 a1_1 a1_2 a1_3 a1_4 a1_5 a1_6 l1_7 = some ([], 7) by unfold spec_EncodeOp.f; rw [if_neg c1])
    clear c0 c1 hby
    go_enter Try.func26, Try.ntmps26
    go_wp2_with (first | ((with_reducible refine gate_dst (N := 3) rfl ?_); refine hx_box rfl 3 rfl 43 (.tmp 1) rfl Sz0 (.agg #[.int .i64 a1_0, .int .i64 a1_1, .int .i64 a1_2, .int .i64 a1_3, .int .i64 a1_4, .string a1_5, .string a1_6, .slice A1_7 l1_7.length c1_7]) #[.int .i64 a1_0, .int .i64 a1_1, .int .i64 a1_2, .int .i64 a1_3, .int .i64 a1_4, .string a1_5, .string a1_6, .slice A1_7 l1_7.length c1_7] rfl rfl ?_; intro w1 s1 L1 Sz1 b1 g_; have H_1 := Aside0.mk g_; have HB1 := Aside0.mk (below_then HB0.out HB0.out.size b1); clear g_ HB0 b1) | ((with_reducible refine gate_dst (N := 11) rfl ?_); refine goesL_ (some 11) rfl rfl Try.func35 (by kernel_rfl) rfl #[.int .i64 a0, .int .i64 1, .int .i64 1099511627776] rfl (by (try simp only [List.map_toArray, List.map_cons, List.map_nil]); first | done | rfl) ?_; refine (spec_l02Within.calls a0 1 1099511627776 true _ W_.out).mono ?_; rintro e_ w2 ⟨rfl, d_⟩; refine ⟨_, rfl, ?_⟩; have b_ := kept_drawn d_; clear d_; have HB2 := Aside0.mk (below_then HB1.out HB1.out.size b_); have H_2 := Aside0.mk (blk_below H_1.out b_); clear b_ HB1 H_1) | ((with_reducible refine gate_dst (N := 14) rfl ?_); refine hx_load rfl 43 (.tmp 3) rfl s0 8 rfl Try.underlying43 rfl (by kernel_rfl) H_2.out rfl ?_) | ((with_reducible refine gate_dst (N := 15) rfl ?_); refine goesL_ (some 15) rfl rfl Try.func18 (by kernel_rfl) rfl #[.agg #[.int .i64 a1_0, .int .i64 a1_1, .int .i64 a1_2, .int .i64 a1_3, .int .i64 a1_4, .string a1_5, .string a1_6, .slice A1_7 l1_7.length c1_7]] rfl (by (try simp only [List.map_toArray, List.map_cons, List.map_nil]); first | done | rfl) ?_; refine (spec_EncodeOp.calls a1_0 a1_1 a1_2 a1_3 a1_4 a1_5 a1_6 A1_7 c1_7 l1_7 [] 7 w2 (Kd.C_below HR7.out HB2.out) HC7.out EO.out).mono ?_; rintro e_ w3 ⟨v_, rfl, R_, b_⟩; obtain ⟨A15, c15, rfl⟩ := Kd.R_slice R_; refine ⟨_, rfl, ?_⟩; have O15_3 := Aside0.mk (Kd.R_lower R_ HB2.out.size); clear R_; have HB3 := Aside0.mk (below_then HB2.out HB2.out.size b_); clear b_ H_2 HB2))
    go_ret2
    exact ⟨_, rfl, Kd.R_nil _ _ _ _ _, HB3.out⟩
  rw [if_pos ⟨c0, c1⟩] at h
  simp only [Option.some.injEq, Prod.mk.injEq] at h
  obtain ⟨rfl, rfl⟩ := h
  have EO := Aside0.mk (show spec_EncodeOp.f a1_0 a1_1 a1_2 a1_3 a1_4 a1_5 a1_6 l1_7 = some (opBytes a1_0 a1_1 a1_2 a1_3 a1_4 a1_5 a1_6 l1_7, 0) by unfold spec_EncodeOp.f; rw [if_pos c1])
  have hob := opBytes_byt (a := a1_0) (b := a1_1) (c := a1_2) (u := a1_3) (g := a1_4) (p := a1_5) (q := a1_6) hby
  have hol : (opBytes a1_0 a1_1 a1_2 a1_3 a1_4 a1_5 a1_6 l1_7).length ≤ 8192 := by have h_ := opGood_get c1; rw [opBytes_length]; omega
  clear c1 hby
  obtain ⟨ob, hobe⟩ : ∃ ob, ob = opBytes a1_0 a1_1 a1_2 a1_3 a1_4 a1_5 a1_6 l1_7 := ⟨_, rfl⟩
  rw [← hobe] at hob hol EO ⊢
  obtain ⟨hd, hhd⟩ : ∃ hd, hd = recHead a0 ob := ⟨_, rfl⟩
  have hhl : hd.length = 12 := by rw [hhd]; exact recHead_length
  have hhb : Byt hd := by rw [hhd]; exact recHead_byt
  obtain ⟨hb, hhb2⟩ : ∃ hb, hb = ([hd, ob] : List (List Int)).flatten := ⟨_, rfl⟩
  have hbl : hb.length = 12 + ob.length := by rw [hhb2]; simp [hhl]
  have hbb : Byt hb := by rw [hhb2]; simpa using byt_append hhb hob
  obtain ⟨cv, hcv⟩ : ∃ cv, cv = crcV hb := ⟨_, rfl⟩
  have hcr : 0 ≤ cv ∧ cv < 4294967296 := by rw [hcv]; exact crcV_range hbb
  have hcw : wrap64 cv = cv := by unfold wrap64; omega
  obtain ⟨rc, hrc⟩ : ∃ rc, rc = ([hd, leB cv 4, ob] : List (List Int)).flatten := ⟨_, rfl⟩
  have hre : recBytes a0 ob = rc := by rw [hrc, hcv, hhb2, hhd]; rfl
  have hrl : rc.length = 16 + ob.length := by rw [← hre]; exact recBytes_length
  rw [hre]
  obtain ⟨kc, hkc⟩ : ∃ kc : Nat, 10 * hb.length + 10 < kc := ⟨_, Nat.lt_succ_self _⟩
  have E1 := Aside0.mk (show spec_l02Put.f 20 a0 8 = some (leB a0 8) from l02Put_f a0 8 20 (by decide) (by omega) (by omega) (by decide))
  have E2 := Aside0.mk (show spec_l02Put.f 20 ((ob.length : Nat) : Int) 4 = some (leB ((ob.length : Nat) : Int) 4) from l02Put_f ((ob.length : Nat) : Int) 4 20 (by decide) (by omega) (by omega) (by decide))
  have hh0 : hd = ([leB a0 8, leB ((ob.length : Nat) : Int) 4] : List (List Int)).flatten := hhd
  have J1 := Aside0.mk (show spec_l02Join.f 20 [leB a0 8, leB ((ob.length : Nat) : Int) 4] = some hd by rw [hh0]; exact l02Join_f _ 20 (by simp) (by simp) (by rw [sumL_flatten, ← hh0]; omega))
  have J2 := Aside0.mk (show spec_l02Join.f 20 [hd, ob] = some hb by rw [hhb2]; exact l02Join_f _ 20 (by simp) (by simp) (by rw [sumL_flatten, ← hhb2]; omega))
  have EC := Aside0.mk (show spec_Crc32.f kc hb = some cv by rw [hcv]; exact specCrc_v hb hbb (by omega) kc (by omega))
  have E4 := Aside0.mk (show spec_l02Put.f 20 cv 4 = some (leB cv 4) from l02Put_f cv 4 20 (by decide) (by omega) (by omega) (by decide))
  have J3 := Aside0.mk (show spec_l02Join.f 20 [hd, leB cv 4, ob] = some rc by rw [hrc]; exact l02Join_f _ 20 (by simp) (by simp) (by rw [sumL_flatten, ← hrc]; omega))
  have HCW := Aside0.mk hcw
  clear hobe hob hol hhd hhl hhb hhb2 hbl hbb hcv hcr hcw hrc hre hrl hkc hh0 c0
  go_enter Try.func26, Try.ntmps26
  go_wp2_with (first | ((with_reducible refine gate_dst (N := 3) rfl ?_); refine hx_box rfl 3 rfl 43 (.tmp 1) rfl Sz0 (.agg #[.int .i64 a1_0, .int .i64 a1_1, .int .i64 a1_2, .int .i64 a1_3, .int .i64 a1_4, .string a1_5, .string a1_6, .slice A1_7 l1_7.length c1_7]) #[.int .i64 a1_0, .int .i64 a1_1, .int .i64 a1_2, .int .i64 a1_3, .int .i64 a1_4, .string a1_5, .string a1_6, .slice A1_7 l1_7.length c1_7] rfl rfl ?_; intro w1 s1 L1 Sz1 b1 g_; have H_1 := Aside0.mk g_; have HB1 := Aside0.mk (below_then HB0.out HB0.out.size b1); clear g_ HB0 b1) | ((with_reducible refine gate_dst (N := 11) rfl ?_); refine goesL_ (some 11) rfl rfl Try.func35 (by kernel_rfl) rfl #[.int .i64 a0, .int .i64 1, .int .i64 1099511627776] rfl (by (try simp only [List.map_toArray, List.map_cons, List.map_nil]); first | done | rfl) ?_; refine (spec_l02Within.calls a0 1 1099511627776 true _ W_.out).mono ?_; rintro e_ w2 ⟨rfl, d_⟩; refine ⟨_, rfl, ?_⟩; have b_ := kept_drawn d_; clear d_; have HB2 := Aside0.mk (below_then HB1.out HB1.out.size b_); have H_2 := Aside0.mk (blk_below H_1.out b_); clear b_ HB1 H_1) | ((with_reducible refine gate_dst (N := 14) rfl ?_); refine hx_load rfl 43 (.tmp 3) rfl s0 8 rfl Try.underlying43 rfl (by kernel_rfl) H_2.out rfl ?_) | ((with_reducible refine gate_dst (N := 15) rfl ?_); refine goesL_ (some 15) rfl rfl Try.func18 (by kernel_rfl) rfl #[.agg #[.int .i64 a1_0, .int .i64 a1_1, .int .i64 a1_2, .int .i64 a1_3, .int .i64 a1_4, .string a1_5, .string a1_6, .slice A1_7 l1_7.length c1_7]] rfl (by (try simp only [List.map_toArray, List.map_cons, List.map_nil]); first | done | rfl) ?_; refine (spec_EncodeOp.calls a1_0 a1_1 a1_2 a1_3 a1_4 a1_5 a1_6 A1_7 c1_7 l1_7 ob 0 w2 (Kd.C_below HR7.out HB2.out) HC7.out EO.out).mono ?_; rintro e_ w3 ⟨v_, rfl, R_, b_⟩; obtain ⟨A15, c15, rfl⟩ := Kd.R_slice R_; refine ⟨_, rfl, ?_⟩; have O15_3 := Aside0.mk (Kd.R_lower R_ HB2.out.size); clear R_; have HB3 := Aside0.mk (below_then HB2.out HB2.out.size b_); clear b_ H_2 HB2) | ((with_reducible refine gate_dst (N := 22) rfl ?_); refine goesL_ (some 22) rfl rfl Try.func37 (by kernel_rfl) rfl #[.int .i64 a0, .int .i64 8] rfl (by (try simp only [List.map_toArray, List.map_cons, List.map_nil]); first | done | rfl) ?_; refine (spec_l02Put.calls 20 a0 8 (leB a0 8) w3 E1.out).mono ?_; rintro e_ w4 ⟨v_, rfl, R_, b_⟩; obtain ⟨A22, c22, rfl⟩ := Kd.R_slice R_; refine ⟨_, rfl, ?_⟩; have O22_4 := Aside0.mk (Kd.R_lower R_ HB3.out.size); clear R_; have HB4 := Aside0.mk (below_then HB3.out HB3.out.size b_); have O15_4 := Aside0.mk (Kd.R_below O15_3.out b_); clear b_ HB3 O15_3) | ((with_reducible refine gate_dst (N := 25) rfl ?_); refine goesL_ (some 25) rfl rfl Try.func37 (by kernel_rfl) rfl #[.int .i64 ((ob.length : Nat) : Int), .int .i64 4] rfl (by (try simp only [List.map_toArray, List.map_cons, List.map_nil]); first | done | rfl) ?_; refine (spec_l02Put.calls 20 ((ob.length : Nat) : Int) 4 (leB ((ob.length : Nat) : Int) 4) w4 E2.out).mono ?_; rintro e_ w5 ⟨v_, rfl, R_, b_⟩; obtain ⟨A25, c25, rfl⟩ := Kd.R_slice R_; refine ⟨_, rfl, ?_⟩; have O25_5 := Aside0.mk (Kd.R_lower R_ HB4.out.size); clear R_; have HB5 := Aside0.mk (below_then HB4.out HB4.out.size b_); have O15_5 := Aside0.mk (Kd.R_below O15_4.out b_); have O22_5 := Aside0.mk (Kd.R_below O22_4.out b_); clear b_ HB4 O15_4 O22_4) | ((with_reducible refine gate_dst (N := 26) rfl ?_); refine wpList_rows rfl (N := 26) rfl (Kd.int .u8) 5 22 [(.slice A22 (leB a0 8).length c22), (.slice A25 (leB ((ob.length : Nat) : Int) 4).length c25)] [(leB a0 8), (leB ((ob.length : Nat) : Int) 4)] (by simp) ?hr (rows_cons ⟨_, _, rfl, (Kd.R_reads' O22_5.out).2.1, (Kd.R_reads' O22_5.out).2.2⟩ (rows_cons ⟨_, _, rfl, (Kd.R_reads' O25_5.out).2.1, (Kd.R_reads' O25_5.out).2.2⟩ (rows_nil))) ?_; (case hr => first | (go_simp; done) | (go_simp; rfl)); intro A26 c26 w6 h26 C_ b_; have C26_6 := Aside0.mk C_; clear C_; have HB6 := Aside0.mk (below_then HB5.out HB5.out.size b_); have O15_6 := Aside0.mk (Kd.R_below O15_5.out b_); have O22_6 := Aside0.mk (Kd.R_below O22_5.out b_); have O25_6 := Aside0.mk (Kd.R_below O25_5.out b_); clear b_ HB5 O15_5 O22_5 O25_5) | ((with_reducible refine gate_dst (N := 27) rfl ?_); refine goesL_ (some 27) rfl rfl Try.func36 (by kernel_rfl) rfl #[.slice A26 ([leB a0 8, leB ((ob.length : Nat) : Int) 4] : List (List Int)).length c26] rfl (by (try simp only [List.map_toArray, List.map_cons, List.map_nil]); first | done | rfl) ?_; refine (spec_l02Join.calls 20 A26 c26 [leB a0 8, leB ((ob.length : Nat) : Int) 4] hd w6 C26_6.out h26 J1.out).mono ?_; rintro e_ w7 ⟨v_, rfl, R_, b_⟩; obtain ⟨A27, c27, rfl⟩ := Kd.R_slice R_; refine ⟨_, rfl, ?_⟩; have O27_7 := Aside0.mk (Kd.R_lower R_ HB6.out.size); clear R_; have HB7 := Aside0.mk (below_then HB6.out HB6.out.size b_); have O15_7 := Aside0.mk (Kd.R_below O15_6.out b_); have O22_7 := Aside0.mk (Kd.R_below O22_6.out b_); have O25_7 := Aside0.mk (Kd.R_below O25_6.out b_); have C26_7 := Aside0.mk (Kd.C_below C26_6.out b_); clear b_ HB6 O15_6 O22_6 O25_6 C26_6) | ((with_reducible refine gate_dst (N := 30) rfl ?_); refine wpList_rows rfl (N := 30) rfl (Kd.int .u8) 5 22 [(.slice A27 hd.length c27), (.slice A15 ob.length c15)] [hd, ob] (by simp) ?hr (rows_cons ⟨_, _, rfl, (Kd.R_reads' O27_7.out).2.1, (Kd.R_reads' O27_7.out).2.2⟩ (rows_cons ⟨_, _, rfl, (Kd.R_reads' O15_7.out).2.1, (Kd.R_reads' O15_7.out).2.2⟩ (rows_nil))) ?_; (case hr => first | (go_simp; done) | (go_simp; rfl)); intro A30 c30 w8 h30 C_ b_; have C30_8 := Aside0.mk C_; clear C_; have HB8 := Aside0.mk (below_then HB7.out HB7.out.size b_); have O15_8 := Aside0.mk (Kd.R_below O15_7.out b_); have O22_8 := Aside0.mk (Kd.R_below O22_7.out b_); have O25_8 := Aside0.mk (Kd.R_below O25_7.out b_); have C26_8 := Aside0.mk (Kd.C_below C26_7.out b_); have O27_8 := Aside0.mk (Kd.R_below O27_7.out b_); clear b_ HB7 O15_7 O22_7 O25_7 C26_7 O27_7) | ((with_reducible refine gate_dst (N := 31) rfl ?_); refine goesL_ (some 31) rfl rfl Try.func36 (by kernel_rfl) rfl #[.slice A30 ([hd, ob] : List (List Int)).length c30] rfl (by (try simp only [List.map_toArray, List.map_cons, List.map_nil]); first | done | rfl) ?_; refine (spec_l02Join.calls 20 A30 c30 [hd, ob] hb w8 C30_8.out h30 J2.out).mono ?_; rintro e_ w9 ⟨v_, rfl, R_, b_⟩; obtain ⟨A31, c31, rfl⟩ := Kd.R_slice R_; refine ⟨_, rfl, ?_⟩; have O31_9 := Aside0.mk (Kd.R_lower R_ HB8.out.size); clear R_; have HB9 := Aside0.mk (below_then HB8.out HB8.out.size b_); have O15_9 := Aside0.mk (Kd.R_below O15_8.out b_); have O22_9 := Aside0.mk (Kd.R_below O22_8.out b_); have O25_9 := Aside0.mk (Kd.R_below O25_8.out b_); have C26_9 := Aside0.mk (Kd.C_below C26_8.out b_); have O27_9 := Aside0.mk (Kd.R_below O27_8.out b_); have C30_9 := Aside0.mk (Kd.C_below C30_8.out b_); clear b_ HB8 O15_8 O22_8 O25_8 C26_8 O27_8 C30_8) | ((with_reducible refine gate_dst (N := 32) rfl ?_); refine goesL_ (some 32) rfl rfl Try.func41 (by kernel_rfl) rfl #[.slice A31 hb.length c31] rfl (by (try simp only [List.map_toArray, List.map_cons, List.map_nil]); first | done | rfl) ?_; refine (spec_Crc32.calls kc A31 c31 hb cv w9 (Kd.R_reads' O31_9.out).2.2 (Kd.R_reads' O31_9.out).2.1 EC.out).mono ?_; rintro e_ w10 ⟨rfl, dd_⟩; refine ⟨_, rfl, ?_⟩; have b_ := kept_drawn dd_; clear dd_; have HB10 := Aside0.mk (below_then HB9.out HB9.out.size b_); have O15_10 := Aside0.mk (Kd.R_below O15_9.out b_); have O22_10 := Aside0.mk (Kd.R_below O22_9.out b_); have O25_10 := Aside0.mk (Kd.R_below O25_9.out b_); have C26_10 := Aside0.mk (Kd.C_below C26_9.out b_); have O27_10 := Aside0.mk (Kd.R_below O27_9.out b_); have C30_10 := Aside0.mk (Kd.C_below C30_9.out b_); have O31_10 := Aside0.mk (Kd.R_below O31_9.out b_); clear b_ HB9 O15_9 O22_9 O25_9 C26_9 O27_9 C30_9 O31_9) | ((with_reducible refine gate_dst (N := 36) rfl ?_); refine goesL_ (some 36) rfl rfl Try.func37 (by kernel_rfl) rfl #[.int .i64 (wrap64 cv), .int .i64 4] rfl (by (try simp only [List.map_toArray, List.map_cons, List.map_nil]); first | done | rfl) ?_; rw [HCW.out]; refine (spec_l02Put.calls 20 cv 4 (leB cv 4) w10 E4.out).mono ?_; rintro e_ w11 ⟨v_, rfl, R_, b_⟩; obtain ⟨A36, c36, rfl⟩ := Kd.R_slice R_; refine ⟨_, rfl, ?_⟩; have O36_11 := Aside0.mk (Kd.R_lower R_ HB10.out.size); clear R_; have HB11 := Aside0.mk (below_then HB10.out HB10.out.size b_); have O15_11 := Aside0.mk (Kd.R_below O15_10.out b_); have O22_11 := Aside0.mk (Kd.R_below O22_10.out b_); have O25_11 := Aside0.mk (Kd.R_below O25_10.out b_); have C26_11 := Aside0.mk (Kd.C_below C26_10.out b_); have O27_11 := Aside0.mk (Kd.R_below O27_10.out b_); have C30_11 := Aside0.mk (Kd.C_below C30_10.out b_); have O31_11 := Aside0.mk (Kd.R_below O31_10.out b_); clear b_ HB10 O15_10 O22_10 O25_10 C26_10 O27_10 C30_10 O31_10) | ((with_reducible refine gate_dst (N := 38) rfl ?_); refine wpList_rows rfl (N := 38) rfl (Kd.int .u8) 5 22 [(.slice A27 hd.length c27), (.slice A36 (leB cv 4).length c36), (.slice A15 ob.length c15)] [hd, (leB cv 4), ob] (by simp) ?hr (rows_cons ⟨_, _, rfl, (Kd.R_reads' O27_11.out).2.1, (Kd.R_reads' O27_11.out).2.2⟩ (rows_cons ⟨_, _, rfl, (Kd.R_reads' O36_11.out).2.1, (Kd.R_reads' O36_11.out).2.2⟩ (rows_cons ⟨_, _, rfl, (Kd.R_reads' O15_11.out).2.1, (Kd.R_reads' O15_11.out).2.2⟩ (rows_nil)))) ?_; (case hr => first | (go_simp; done) | (go_simp; rfl)); intro A38 c38 w12 h38 C_ b_; have C38_12 := Aside0.mk C_; clear C_; have HB12 := Aside0.mk (below_then HB11.out HB11.out.size b_); have O15_12 := Aside0.mk (Kd.R_below O15_11.out b_); have O22_12 := Aside0.mk (Kd.R_below O22_11.out b_); have O25_12 := Aside0.mk (Kd.R_below O25_11.out b_); have C26_12 := Aside0.mk (Kd.C_below C26_11.out b_); have O27_12 := Aside0.mk (Kd.R_below O27_11.out b_); have C30_12 := Aside0.mk (Kd.C_below C30_11.out b_); have O31_12 := Aside0.mk (Kd.R_below O31_11.out b_); have O36_12 := Aside0.mk (Kd.R_below O36_11.out b_); clear b_ HB11 O15_11 O22_11 O25_11 C26_11 O27_11 C30_11 O31_11 O36_11) | ((with_reducible refine gate_dst (N := 39) rfl ?_); refine goesL_ (some 39) rfl rfl Try.func36 (by kernel_rfl) rfl #[.slice A38 ([hd, leB cv 4, ob] : List (List Int)).length c38] rfl (by (try simp only [List.map_toArray, List.map_cons, List.map_nil]); first | done | rfl) ?_; refine (spec_l02Join.calls 20 A38 c38 [hd, leB cv 4, ob] rc w12 C38_12.out h38 J3.out).mono ?_; rintro e_ w13 ⟨v_, rfl, R_, b_⟩; obtain ⟨A39, c39, rfl⟩ := Kd.R_slice R_; refine ⟨_, rfl, ?_⟩; have O39_13 := Aside0.mk (Kd.R_lower R_ HB12.out.size); clear R_; have HB13 := Aside0.mk (below_then HB12.out HB12.out.size b_); have O15_13 := Aside0.mk (Kd.R_below O15_12.out b_); have O22_13 := Aside0.mk (Kd.R_below O22_12.out b_); have O25_13 := Aside0.mk (Kd.R_below O25_12.out b_); have C26_13 := Aside0.mk (Kd.C_below C26_12.out b_); have O27_13 := Aside0.mk (Kd.R_below O27_12.out b_); have C30_13 := Aside0.mk (Kd.C_below C30_12.out b_); have O31_13 := Aside0.mk (Kd.R_below O31_12.out b_); have O36_13 := Aside0.mk (Kd.R_below O36_12.out b_); have C38_13 := Aside0.mk (Kd.C_below C38_12.out b_); clear b_ HB12 O15_12 O22_12 O25_12 C26_12 O27_12 C30_12 O31_12 O36_12 C38_12))
  go_ret2
  exact ⟨_, rfl, O39_13.out, HB13.out⟩

/-! ### impl_within: function 31 -/
def impl_within.f (a0 : Int) (a1 : Int) (a2 : Int) : Option (Bool) := if a0 ≥ a1 then (some (decide (a0 ≤ a2))) else (some false)
set_option maxHeartbeats 8000000 in
set_option maxRecDepth 100000 in
theorem impl_within.calls (a0 : Int) (a1 : Int) (a2 : Int) (r : Bool) (w : World) (h : impl_within.f a0 a1 a2 = some r) :
    Calls Try.prog 31 #[.int .i64 a0, .int .i64 a1, .int .i64 a2] w fun e w' => e = .returned (.bool r) ∧ Drawn0 w w' := by
  have H : (if a0 ≥ a1 then (some (decide (a0 ≤ a2))) else (some false)) = some r := h
  clear h
  by_cases c4 : a0 ≥ a1
  · rw [if_pos c4] at H
    have c4b0 : decide (a1 ≤ a0) = true := decide_eq_true c4
    clear c4
    obtain rfl := Option.some.inj H
    go_enter Try.func31, Try.ntmps31
    go_wp2
    go_ret
    exact ⟨by first | rfl | (simp; done) | (simp [*]; done), by repeat (first | exact Drawn0.refl _ | apply Drawn0.step)⟩
  · rw [if_neg c4] at H
    have c4b0 : decide (a1 ≤ a0) = false := decide_eq_false c4
    clear c4
    obtain rfl := Option.some.inj H
    go_enter Try.func31, Try.ntmps31
    go_wp2
    go_ret
    exact ⟨by first | rfl | (simp; done) | (simp [*]; done), by repeat (first | exact Drawn0.refl _ | apply Drawn0.step)⟩

-- NOT PRINTED: function 46 (slices_Grow_byte_byte)

end Go.Proofs.Ytknlpjoidjgciaa.PFnExactLogRecord
