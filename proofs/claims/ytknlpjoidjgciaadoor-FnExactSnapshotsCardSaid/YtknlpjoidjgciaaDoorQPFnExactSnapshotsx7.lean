/- PFnExactSnapshotsx7: functions of the law, walked; written by a program of this session. No condition. -/
import Derived.Test.YtknlpjoidjgciaaDoorQPFnExactSnapshotsx0
import Derived.Test.YtknlpjoidjgciaaDoorQPFnExactSnapshotsx1
import Derived.Test.YtknlpjoidjgciaaDoorQPFnExactSnapshotsx6
namespace Go.Proofs.YtknlpjoidjgciaaDoor.PFnExactSnapshots
open Go.RowKit Go.Proofs.YtknlpjoidjgciaaDoorW.PrintWords Go.Proofs.YtknlpjoidjgciaaDoorW.PrintLast Go.Proofs.YtknlpjoidjgciaaDoorW.PrintMore
attribute [local go_sem] max2_int min2_int max_two min_two max_three min_three max_four min_four
set_option linter.unusedVariables false
set_option linter.unusedSimpArgs false
open Go.Proofs.YtknlpjoidjgciaaDoorW Go.Proofs.YtknlpjoidjgciaaDoorW.PrintHand Go.Proofs.YtknlpjoidjgciaaDoorW.PrintHx
open Go.Proofs.YtknlpjoidjgciaaDoorW.PrintLe Go.Proofs.YtknlpjoidjgciaaDoorW.PrintGrow Go.Proofs.YtknlpjoidjgciaaDoorW.PrintDec Go.Proofs.YtknlpjoidjgciaaDoorW.PrintIno Go.Proofs.YtknlpjoidjgciaaDoorW.PrintTab2 Go.Proofs.YtknlpjoidjgciaaDoorW.PrintTab3 Go.Proofs.YtknlpjoidjgciaaDoorW.PrintFsi Go.Proofs.YtknlpjoidjgciaaDoorW.PrintFsb Go.Proofs.YtknlpjoidjgciaaDoorW.PrintFsd Go.Proofs.YtknlpjoidjgciaaDoorW.PrintCrc Go.Proofs.YtknlpjoidjgciaaDoorW.PrintChs
theorem spec_L01Blocks.size (l : List Int) (h : l.length ≤ 1048576) : spec_L01Blocks.f l = some (sizeN l) := by
  unfold spec_L01Blocks.f sizeN
  have e1 : wrap64 ((l.length : Int) / 512) = ((l.length / 512 : Nat) : Int) := by unfold wrap64; omega
  rw [e1]
  have e2 : wrap64 (((l.length / 512 : Nat) : Int) * 512) = ((l.length / 512 * 512 : Nat) : Int) := by unfold wrap64; omega
  rw [e2]
  by_cases c : l.length % 512 = 0 ∧ 64 ≤ l.length / 512 ∧ l.length / 512 ≤ 2048
  · rw [if_pos c, if_pos (by omega), if_neg (by omega), if_neg (by omega)]
  · rw [if_neg c]
    repeat' split
    all_goals first | rfl | (exfalso; omega)
def spec_ChooseFsinfo.f (l0 : List Int) : Option (List Int × Int × Int) := if l0.length ≤ 1048576 ∧ ∀ x ∈ l0, 0 ≤ x ∧ x ≤ 255 then some (chooseF (decA l0) l0) else none
set_option maxHeartbeats 8000000 in
set_option maxRecDepth 100000 in
theorem spec_ChooseFsinfo.calls (A0 : Option Addr) (c0 : Nat) (l0 : List Int) (r1 : List Int) (r2 r3 : Int) (w : World) (hr0 : Kd.C (Kd.int .u8) w A0 l0.length l0) (hc0 : l0.length ≤ c0) (h : spec_ChooseFsinfo.f l0 = some (r1, r2, r3)) :
    Calls Tryd.prog 78 #[.slice A0 l0.length c0] w fun e w' => e = .returned (.tuple #[.agg (nums .i64 r1).toArray, .int .i64 r2, .int .i64 r3]) ∧ Below w.heap.size w w' := by
  unfold spec_ChooseFsinfo.f at h
  by_cases hdom : l0.length ≤ 1048576 ∧ ∀ x ∈ l0, 0 ≤ x ∧ x ≤ 255
  case neg => rw [if_neg hdom] at h; cases h
  rw [if_pos hdom] at h
  replace h := Option.some.inj h
  have hl := hdom.1
  have hby := hdom.2
  clear hdom
  have HR0 := Aside0.mk hr0
  have HC0 := Aside0.mk hc0
  have HBY : Aside0 (Byt l0) := ⟨hby⟩
  have HLM := Aside0.mk hl
  obtain ⟨nb, hnb⟩ : ∃ n, n = sizeN l0 := ⟨_, rfl⟩
  have EB := Aside0.mk (show spec_L01Blocks.f l0 = some nb by rw [hnb]; exact spec_L01Blocks.size l0 hl)
  have Z127 : ∀ w, (zeroValue 127).run Tryd.prog w = .ok (.agg (nums .i64 (List.replicate 68 0)).toArray) w := fun _ => by kernel_rfl
  have NZ := Aside0.mk (show (List.replicate 68 (0 : Int)).length = 68 by simp)
  unfold chooseF at h
  rw [← hnb] at h
  clear hr0 hc0 hby hl
  have HB0 : Aside0 (Below w.heap.size w w) := ⟨Below.refl _ _⟩
  obtain ⟨s0, Sz0⟩ : ∃ s0, Aside0 (w.heap.size = s0) := ⟨_, ⟨rfl⟩⟩
  have hw0 : w.heap.size ≤ s0 := Nat.le_of_eq Sz0.out
  have hw1 : s0 ≤ w.heap.size := Nat.le_of_eq Sz0.out.symm
  by_cases hz : nb = 0
  case pos =>
    rw [if_pos hz] at h
    simp only [Prod.mk.injEq] at h
    obtain ⟨rfl, rfl, rfl⟩ := h
    have e0 : (nb == 0) = true := beq_iff_eq.mpr hz
    clear hz hnb
    go_enter Tryd.func78, Tryd.ntmps78
    go_wp2_with (first | ((with_reducible refine gate_dst (N := 2) rfl ?_); refine hx_alloc rfl 2 rfl 127 rfl Sz0 (.agg (nums .i64 (List.replicate 68 0)).toArray) (nums .i64 (List.replicate 68 0)).toArray Z127 rfl ?_; intro w1 s1 Ls1 Ss1 b_ g_; have H2 := Aside0.mk g_; have HB1 := Aside0.mk (below_then HB0.out HB0.out.size b_); clear b_ g_ HB0) | ((with_reducible refine gate_dst (N := 13) rfl ?_); refine goesL_ (some 13) rfl rfl Tryd.func62 (by kernel_rfl) rfl #[.slice A0 l0.length c0] rfl (by (try simp only [List.map_toArray, List.map_cons, List.map_nil]); first | done | rfl) ?_; refine (spec_L01Blocks.calls A0 c0 l0 nb _ (Kd.C_below HR0.out HB1.out) HC0.out EB.out).mono ?_; rintro e_ w2 ⟨rfl, d_⟩; refine ⟨_, rfl, ?_⟩; have b_ := kept_drawn d_; have H2_2 := Aside0.mk (blk_below H2.out b_); have HB2 := Aside0.mk (below_then HB1.out HB1.out.size b_); obtain ⟨s2, L2, Sz2⟩ := size_letter Ss1 (kept_below b_); clear b_ d_ H2 HB1) | ((with_reducible refine gate_store (t := 127) (p := 2) (v := .tmp 16) rfl ?_); refine hx_store rfl rfl 127 (.tmp 2) (.tmp 16) rfl s0 68 rfl (nums .i64 (List.replicate 68 0)).toArray rfl (by kernel_rfl) (nums_size _ _ _ NZ.out) (nums_one _ _) H2_2.out (by simp [nums]) ?_; intro we t_ gg_; have HE := Aside0.mk gg_; have HEB := Aside0.mk (t_.below HB2.out (by omega)); clear t_ gg_ H2_2 HB2 ))
    exact bodyPost_ret (results_ctt rfl _ _ s0 127 (nums .i64 (List.replicate 68 0)).toArray (0, 0) _ rfl HE.out Tryd.underlying127 rfl (by rw [nums_size _ _ _ NZ.out]; kernel_rfl)) rfl ⟨rfl, HEB.out⟩
  rw [if_neg hz] at h
  have HSZ := Aside0.mk (show nb = ((l0.length / 512 : Nat) : Int) ∧ l0.length % 512 = 0 ∧ 64 ≤ l0.length / 512 ∧ l0.length / 512 ≤ 2048 by have h_ := sizeN_pos (l := l0) (by rw [← hnb]; exact hz); rw [← hnb] at h_; exact h_)
  have e0 : (nb == 0) = false := beq_eq_false_iff_ne.mpr hz
  have H := Aside0.mk h
  clear hz hnb h
  go_enter Tryd.func78, Tryd.ntmps78
  go_wp2_with (first | ((with_reducible refine gate_dst (N := 2) rfl ?_); refine hx_alloc rfl 2 rfl 127 rfl Sz0 (.agg (nums .i64 (List.replicate 68 0)).toArray) (nums .i64 (List.replicate 68 0)).toArray Z127 rfl ?_; intro w1 s1 Ls1 Ss1 b_ g_; have H2 := Aside0.mk g_; have HB1 := Aside0.mk (below_then HB0.out HB0.out.size b_); clear b_ g_ HB0) | ((with_reducible refine gate_dst (N := 13) rfl ?_); refine goesL_ (some 13) rfl rfl Tryd.func62 (by kernel_rfl) rfl #[.slice A0 l0.length c0] rfl (by (try simp only [List.map_toArray, List.map_cons, List.map_nil]); first | done | rfl) ?_; refine (spec_L01Blocks.calls A0 c0 l0 nb _ (Kd.C_below HR0.out HB1.out) HC0.out EB.out).mono ?_; rintro e_ w2 ⟨rfl, d_⟩; refine ⟨_, rfl, ?_⟩; have b_ := kept_drawn d_; have H2_2 := Aside0.mk (blk_below H2.out b_); have HB2 := Aside0.mk (below_then HB1.out HB1.out.size b_); obtain ⟨s2, L2, Sz2⟩ := size_letter Ss1 (kept_below b_); clear b_ d_ H2 HB1) | ((with_reducible refine gate_dst (N := 6) rfl ?_); refine hx_alloc rfl 6 rfl 127 rfl Sz2 (.agg (nums .i64 (List.replicate 68 0)).toArray) (nums .i64 (List.replicate 68 0)).toArray Z127 rfl ?_; intro w3 s3 Ls3 Ss3 b_ g_; have H6 := Aside0.mk g_; have HB3 := Aside0.mk (below_then HB2.out HB2.out.size b_); have H2_3 := Aside0.mk (blk_below H2_2.out b_); clear b_ g_ HB2 H2_2) | ((with_reducible refine gate_store (t := 127) (p := 6) (v := .tmp 17) rfl ?_); refine hx_store rfl rfl 127 (.tmp 6) (.tmp 17) rfl s2 68 rfl (nums .i64 (List.replicate 68 0)).toArray rfl (by kernel_rfl) (nums_size _ _ _ NZ.out) (nums_one _ _) H6.out (by simp [nums]) ?_; intro w4 t_ gg_; have H6_4 := Aside0.mk gg_; have H2_4 := Aside0.mk (t_.keep (show s0 ≠ s2 by omega) H2_3.out); have HB4 := Aside0.mk (t_.below HB3.out (by omega)); clear t_ gg_ H6 HB3 H2_3))
  (try simp only [Act.put, List.setIfInBounds_toArray, List.set_cons_succ, List.set_cons_zero])
  go_loopw [7, 8, 9, 10, 11] (fun v7 v8 v9 v10 v11 wr => ∃ (j : Nat) (L : List Int) (s : Int) (f : Bool) (u10 u11 : Value), u10 = v10 ∧ u11 = v11 ∧ v7 = .int .i64 s ∧ v8 = .bool f ∧ v9 = .int .i64 (j : Int) ∧ Aside0 (j ≤ 2) ∧ Aside0 (L.length = 68) ∧ Aside0 (stN (decA l0) nb j = (L, s, f)) ∧ Aside0 (wr.heap[s2]? = some (.cells (nums .i64 L).toArray 127 (0, 0))) ∧ Aside0 (wr.heap[s0]? = some (.cells (nums .i64 (List.replicate 68 0)).toArray 127 (0, 0))) ∧ Aside0 (Below w.heap.size w wr)) (fun _ _ v9 _ _ _ => 2 - (intOf v9).toNat)
  case atStart => exact ⟨0, (List.replicate 68 0), 0, false, _, _, rfl, rfl, rfl, rfl, rfl, ⟨Nat.zero_le _⟩, NZ, ⟨rfl⟩, H6_4, H2_4, HB4⟩
  case round =>
    clear H6_4 H2_4 HB4
    obtain ⟨j, L, s, f, v10, v11, rfl, rfl, rfl, rfl, rfl, hj, HLL, HST, H6, H2, HB⟩ := hrel
    by_cases c9 : j < 2
    · have c9b0 : decide ((j : Int) < 2) = true := decide_eq_true (by omega)
      have c9b1 : decide (j < 2) = true := decide_eq_true c9
      have C9 := Aside0.mk c9
      clear c9
      obtain ⟨r, kd, hd⟩ : ∃ r kd, decA l0 j = (r, kd) := ⟨_, _, rfl⟩
      have HD := Aside0.mk hd
      have NL := Aside0.mk (show r.length = 68 by have h_ : r = (decA l0 j).1 := (congrArg Prod.fst hd).symm; rw [h_]; exact decF_length (fsA_length _))
      have EF := Aside0.mk (show spec_DecodeFsinfo.f (blk l0 j) = some (r, kd) by rw [← hd]; exact if_pos (blk_byt HBY.out j))
      have HJB := Aside0.mk (show 512 * j + 512 ≤ l0.length by have := HSZ.out.2; have := C9.out; omega)
      obtain ⟨x0, hx0⟩ : ∃ x, x = r.getD 0 0 := ⟨_, rfl⟩
      obtain ⟨x1, hx1⟩ : ∃ x, x = r.getD 1 0 := ⟨_, rfl⟩
      obtain ⟨y0, hy0⟩ : ∃ x, x = L.getD 0 0 := ⟨_, rfl⟩
      have X0 := Aside0.mk hx0
      have X1 := Aside0.mk hx1
      have Y0 := Aside0.mk hy0
      clear hd hx0 hx1 hy0
      by_cases ce : kd = 0
      case neg =>
        have e0 : (kd == 0) = false := beq_eq_false_iff_ne.mpr ce
        have CE := Aside0.mk ce
        clear ce
        go_wp2_with (first | ((with_reducible refine gate_dst (N := 25) rfl ?_); refine goesL_ (some 25) rfl rfl Tryd.func80 (by kernel_rfl) rfl #[.slice A0 l0.length c0, .int .i64 (j : Int)] rfl (by (try simp only [List.map_toArray, List.map_cons, List.map_nil]); first | done | rfl) ?_; refine (spec_l09At.calls A0 c0 l0 j _ (Kd.C_below HR0.out HB.out) HC0.out HJB.out HLM.out).mono ?_; rintro e_ w5 ⟨⟨A5, c5, rfl, hr5, hc5⟩, b_⟩; refine ⟨_, rfl, ?_⟩; have R5 := Aside0.mk hr5; have C5 := Aside0.mk hc5; clear hr5 hc5; have H6_5 := Aside0.mk (blk_below H6.out b_); have H2_5 := Aside0.mk (blk_below H2.out b_); have HB_5 := Aside0.mk (below_then HB.out HB.out.size b_); clear b_ H6 H2 HB) | ((with_reducible refine gate_dst (N := 26) rfl ?_); refine goesL_ (some 26) rfl rfl Tryd.func107 (by kernel_rfl) rfl #[.slice A5 (blk l0 j).length c5] rfl (by (try simp only [List.map_toArray, List.map_cons, List.map_nil]); first | done | rfl) ?_; refine (spec_DecodeFsinfo.calls A5 c5 (blk l0 j) r kd _ R5.out C5.out EF.out).mono ?_; rintro e_ w6 ⟨rfl, b_⟩; refine ⟨_, rfl, ?_⟩; have H6_6 := Aside0.mk (blk_below H6_5.out b_); have H2_6 := Aside0.mk (blk_below H2_5.out b_); have HB_6 := Aside0.mk (below_then HB_5.out HB_5.out.size b_); have hz2_ := blk_lt H2_6.out; have hz6_ := blk_lt H6_6.out; obtain ⟨s6, S6⟩ : ∃ s, Aside0 (w6.heap.size = s) := ⟨_, ⟨rfl⟩⟩; rw [S6.out] at hz2_ hz6_; clear b_ H6_5 H2_5 HB_5) | ((with_reducible refine gate_dst (N := 10) rfl ?_); refine hx_alloc rfl 10 rfl 127 rfl S6 (.agg (nums .i64 (List.replicate 68 0)).toArray) (nums .i64 (List.replicate 68 0)).toArray Z127 rfl ?_; intro w7 s7 Ls7 Ss7 b_ g_; have HX := Aside0.mk g_; have HB_7 := Aside0.mk (below_then HB_6.out HB_6.out.size b_); have H6_7 := Aside0.mk (blk_below H6_6.out b_); have H2_7 := Aside0.mk (blk_below H2_6.out b_); clear b_ g_ HB_6 H6_6 H2_6) | ((with_reducible refine gate_store (t := 127) (p := 10) (v := .tmp 27) rfl ?_); refine hx_store rfl rfl 127 (.tmp 10) (.tmp 27) rfl s6 68 rfl (nums .i64 r).toArray rfl (by kernel_rfl) (nums_size _ _ _ NL.out) (nums_one _ _) HX.out (by simp [nums]) ?_; intro w8 t_ gg_; have HX_8 := Aside0.mk gg_; have H2_8 := Aside0.mk (t_.keep (show s0 ≠ s6 by omega) H2_7.out); have H6_8 := Aside0.mk (t_.keep (show s2 ≠ s6 by omega) H6_7.out); have HB_8 := Aside0.mk (t_.below HB_7.out (by omega)); clear t_ gg_ HX HB_7 H2_7 H6_7) | ((with_reducible refine gate_dst (N := 33) rfl ?_); refine Go.Proofs.YtknlpjoidjgciaaDoorW.PrintTab2.ungd (by rfl) ?_; refine hx_loadf rfl 3 (.tmp 32) rfl s6 1 rfl Tryd.underlying3 rfl HX_8.out (lt_len (n := 68) NL.out (by decide)) ?_; rw [← X1.out]) | ((with_reducible refine gate_dst (N := 42) rfl ?_); refine Go.Proofs.YtknlpjoidjgciaaDoorW.PrintTab2.ungd (by rfl) ?_; refine hx_loadf rfl 3 (.tmp 41) rfl s6 0 rfl Tryd.underlying3 rfl HX_8.out (lt_len (n := 68) NL.out (by decide)) ?_; rw [← X0.out]) | ((with_reducible refine gate_dst (N := 44) rfl ?_); refine Go.Proofs.YtknlpjoidjgciaaDoorW.PrintTab2.ungd (by rfl) ?_; refine hx_loadf rfl 3 (.tmp 43) rfl s2 0 rfl Tryd.underlying3 rfl H6_8.out (lt_len (n := 68) HLL.out (by decide)) ?_; rw [← Y0.out]))
        go_roundw
        case rel => exact ⟨j + 1, L, s, _, _, _, rfl, rfl, rfl, rfl, by first | rw [show wrap64 ((j : Int) + 1) = ((j + 1 : Nat) : Int) by (have := C9.out; unfold wrap64; omega)] | (simp; done), ⟨by have := C9.out; omega⟩, HLL, ⟨stN_skip HST.out HD.out (fun h_ => by have h1_ := CE.out; have h2_ := h_.1.1; omega)⟩, H6_8, H2_8, HB_8⟩
        case measure =>
          (try rw [show wrap64 ((j : Int) + 1) = ((j + 1 : Nat) : Int) by (have := C9.out; unfold wrap64; omega)])
          simp only [intOf]
          have := C9.out
          omega
      have e0 : (kd == 0) = true := beq_iff_eq.mpr ce
      have CE := Aside0.mk ce
      clear ce
      by_cases cn : x1 = nb
      case neg =>
        have e1 : (x1 == nb) = false := beq_eq_false_iff_ne.mpr cn
        have CN := Aside0.mk cn
        clear cn
        go_wp2_with (first | ((with_reducible refine gate_dst (N := 25) rfl ?_); refine goesL_ (some 25) rfl rfl Tryd.func80 (by kernel_rfl) rfl #[.slice A0 l0.length c0, .int .i64 (j : Int)] rfl (by (try simp only [List.map_toArray, List.map_cons, List.map_nil]); first | done | rfl) ?_; refine (spec_l09At.calls A0 c0 l0 j _ (Kd.C_below HR0.out HB.out) HC0.out HJB.out HLM.out).mono ?_; rintro e_ w5 ⟨⟨A5, c5, rfl, hr5, hc5⟩, b_⟩; refine ⟨_, rfl, ?_⟩; have R5 := Aside0.mk hr5; have C5 := Aside0.mk hc5; clear hr5 hc5; have H6_5 := Aside0.mk (blk_below H6.out b_); have H2_5 := Aside0.mk (blk_below H2.out b_); have HB_5 := Aside0.mk (below_then HB.out HB.out.size b_); clear b_ H6 H2 HB) | ((with_reducible refine gate_dst (N := 26) rfl ?_); refine goesL_ (some 26) rfl rfl Tryd.func107 (by kernel_rfl) rfl #[.slice A5 (blk l0 j).length c5] rfl (by (try simp only [List.map_toArray, List.map_cons, List.map_nil]); first | done | rfl) ?_; refine (spec_DecodeFsinfo.calls A5 c5 (blk l0 j) r kd _ R5.out C5.out EF.out).mono ?_; rintro e_ w6 ⟨rfl, b_⟩; refine ⟨_, rfl, ?_⟩; have H6_6 := Aside0.mk (blk_below H6_5.out b_); have H2_6 := Aside0.mk (blk_below H2_5.out b_); have HB_6 := Aside0.mk (below_then HB_5.out HB_5.out.size b_); have hz2_ := blk_lt H2_6.out; have hz6_ := blk_lt H6_6.out; obtain ⟨s6, S6⟩ : ∃ s, Aside0 (w6.heap.size = s) := ⟨_, ⟨rfl⟩⟩; rw [S6.out] at hz2_ hz6_; clear b_ H6_5 H2_5 HB_5) | ((with_reducible refine gate_dst (N := 10) rfl ?_); refine hx_alloc rfl 10 rfl 127 rfl S6 (.agg (nums .i64 (List.replicate 68 0)).toArray) (nums .i64 (List.replicate 68 0)).toArray Z127 rfl ?_; intro w7 s7 Ls7 Ss7 b_ g_; have HX := Aside0.mk g_; have HB_7 := Aside0.mk (below_then HB_6.out HB_6.out.size b_); have H6_7 := Aside0.mk (blk_below H6_6.out b_); have H2_7 := Aside0.mk (blk_below H2_6.out b_); clear b_ g_ HB_6 H6_6 H2_6) | ((with_reducible refine gate_store (t := 127) (p := 10) (v := .tmp 27) rfl ?_); refine hx_store rfl rfl 127 (.tmp 10) (.tmp 27) rfl s6 68 rfl (nums .i64 r).toArray rfl (by kernel_rfl) (nums_size _ _ _ NL.out) (nums_one _ _) HX.out (by simp [nums]) ?_; intro w8 t_ gg_; have HX_8 := Aside0.mk gg_; have H2_8 := Aside0.mk (t_.keep (show s0 ≠ s6 by omega) H2_7.out); have H6_8 := Aside0.mk (t_.keep (show s2 ≠ s6 by omega) H6_7.out); have HB_8 := Aside0.mk (t_.below HB_7.out (by omega)); clear t_ gg_ HX HB_7 H2_7 H6_7) | ((with_reducible refine gate_dst (N := 33) rfl ?_); refine Go.Proofs.YtknlpjoidjgciaaDoorW.PrintTab2.ungd (by rfl) ?_; refine hx_loadf rfl 3 (.tmp 32) rfl s6 1 rfl Tryd.underlying3 rfl HX_8.out (lt_len (n := 68) NL.out (by decide)) ?_; rw [← X1.out]) | ((with_reducible refine gate_dst (N := 42) rfl ?_); refine Go.Proofs.YtknlpjoidjgciaaDoorW.PrintTab2.ungd (by rfl) ?_; refine hx_loadf rfl 3 (.tmp 41) rfl s6 0 rfl Tryd.underlying3 rfl HX_8.out (lt_len (n := 68) NL.out (by decide)) ?_; rw [← X0.out]) | ((with_reducible refine gate_dst (N := 44) rfl ?_); refine Go.Proofs.YtknlpjoidjgciaaDoorW.PrintTab2.ungd (by rfl) ?_; refine hx_loadf rfl 3 (.tmp 43) rfl s2 0 rfl Tryd.underlying3 rfl H6_8.out (lt_len (n := 68) HLL.out (by decide)) ?_; rw [← Y0.out]))
        go_roundw
        case rel => exact ⟨j + 1, L, s, _, _, _, rfl, rfl, rfl, rfl, by first | rw [show wrap64 ((j : Int) + 1) = ((j + 1 : Nat) : Int) by (have := C9.out; unfold wrap64; omega)] | (simp; done), ⟨by have := C9.out; omega⟩, HLL, ⟨stN_skip HST.out HD.out (fun h_ => by have h1_ := CN.out; have h2_ := X1.out; have h3_ := h_.1.2; omega)⟩, H6_8, H2_8, HB_8⟩
        case measure =>
          (try rw [show wrap64 ((j : Int) + 1) = ((j + 1 : Nat) : Int) by (have := C9.out; unfold wrap64; omega)])
          simp only [intOf]
          have := C9.out
          omega
      have e1 : (x1 == nb) = true := beq_iff_eq.mpr cn
      have CN := Aside0.mk cn
      clear cn
      cases f
      case false =>
        go_wp2_with (first | ((with_reducible refine gate_dst (N := 25) rfl ?_); refine goesL_ (some 25) rfl rfl Tryd.func80 (by kernel_rfl) rfl #[.slice A0 l0.length c0, .int .i64 (j : Int)] rfl (by (try simp only [List.map_toArray, List.map_cons, List.map_nil]); first | done | rfl) ?_; refine (spec_l09At.calls A0 c0 l0 j _ (Kd.C_below HR0.out HB.out) HC0.out HJB.out HLM.out).mono ?_; rintro e_ w5 ⟨⟨A5, c5, rfl, hr5, hc5⟩, b_⟩; refine ⟨_, rfl, ?_⟩; have R5 := Aside0.mk hr5; have C5 := Aside0.mk hc5; clear hr5 hc5; have H6_5 := Aside0.mk (blk_below H6.out b_); have H2_5 := Aside0.mk (blk_below H2.out b_); have HB_5 := Aside0.mk (below_then HB.out HB.out.size b_); clear b_ H6 H2 HB) | ((with_reducible refine gate_dst (N := 26) rfl ?_); refine goesL_ (some 26) rfl rfl Tryd.func107 (by kernel_rfl) rfl #[.slice A5 (blk l0 j).length c5] rfl (by (try simp only [List.map_toArray, List.map_cons, List.map_nil]); first | done | rfl) ?_; refine (spec_DecodeFsinfo.calls A5 c5 (blk l0 j) r kd _ R5.out C5.out EF.out).mono ?_; rintro e_ w6 ⟨rfl, b_⟩; refine ⟨_, rfl, ?_⟩; have H6_6 := Aside0.mk (blk_below H6_5.out b_); have H2_6 := Aside0.mk (blk_below H2_5.out b_); have HB_6 := Aside0.mk (below_then HB_5.out HB_5.out.size b_); have hz2_ := blk_lt H2_6.out; have hz6_ := blk_lt H6_6.out; obtain ⟨s6, S6⟩ : ∃ s, Aside0 (w6.heap.size = s) := ⟨_, ⟨rfl⟩⟩; rw [S6.out] at hz2_ hz6_; clear b_ H6_5 H2_5 HB_5) | ((with_reducible refine gate_dst (N := 10) rfl ?_); refine hx_alloc rfl 10 rfl 127 rfl S6 (.agg (nums .i64 (List.replicate 68 0)).toArray) (nums .i64 (List.replicate 68 0)).toArray Z127 rfl ?_; intro w7 s7 Ls7 Ss7 b_ g_; have HX := Aside0.mk g_; have HB_7 := Aside0.mk (below_then HB_6.out HB_6.out.size b_); have H6_7 := Aside0.mk (blk_below H6_6.out b_); have H2_7 := Aside0.mk (blk_below H2_6.out b_); clear b_ g_ HB_6 H6_6 H2_6) | ((with_reducible refine gate_store (t := 127) (p := 10) (v := .tmp 27) rfl ?_); refine hx_store rfl rfl 127 (.tmp 10) (.tmp 27) rfl s6 68 rfl (nums .i64 r).toArray rfl (by kernel_rfl) (nums_size _ _ _ NL.out) (nums_one _ _) HX.out (by simp [nums]) ?_; intro w8 t_ gg_; have HX_8 := Aside0.mk gg_; have H2_8 := Aside0.mk (t_.keep (show s0 ≠ s6 by omega) H2_7.out); have H6_8 := Aside0.mk (t_.keep (show s2 ≠ s6 by omega) H6_7.out); have HB_8 := Aside0.mk (t_.below HB_7.out (by omega)); clear t_ gg_ HX HB_7 H2_7 H6_7) | ((with_reducible refine gate_dst (N := 33) rfl ?_); refine Go.Proofs.YtknlpjoidjgciaaDoorW.PrintTab2.ungd (by rfl) ?_; refine hx_loadf rfl 3 (.tmp 32) rfl s6 1 rfl Tryd.underlying3 rfl HX_8.out (lt_len (n := 68) NL.out (by decide)) ?_; rw [← X1.out]) | ((with_reducible refine gate_dst (N := 42) rfl ?_); refine Go.Proofs.YtknlpjoidjgciaaDoorW.PrintTab2.ungd (by rfl) ?_; refine hx_loadf rfl 3 (.tmp 41) rfl s6 0 rfl Tryd.underlying3 rfl HX_8.out (lt_len (n := 68) NL.out (by decide)) ?_; rw [← X0.out]) | ((with_reducible refine gate_dst (N := 44) rfl ?_); refine Go.Proofs.YtknlpjoidjgciaaDoorW.PrintTab2.ungd (by rfl) ?_; refine hx_loadf rfl 3 (.tmp 43) rfl s2 0 rfl Tryd.underlying3 rfl H6_8.out (lt_len (n := 68) HLL.out (by decide)) ?_; rw [← Y0.out]) | ((with_reducible refine gate_dst (N := 48) rfl ?_); refine hx_load rfl 127 (.tmp 10) rfl s6 68 rfl Tryd.underlying127 rfl (by kernel_rfl) HX_8.out (nums_size _ _ _ NL.out) ?_) | ((with_reducible refine gate_store (t := 127) (p := 6) (v := .tmp 48) rfl ?_); refine hx_store rfl rfl 127 (.tmp 6) (.tmp 48) rfl s2 68 rfl (nums .i64 r).toArray rfl (by kernel_rfl) (nums_size _ _ _ NL.out) (nums_one _ _) H6_8.out (nums_size _ _ _ HLL.out) ?_; intro w9 t_ gg_; have H6_9 := Aside0.mk gg_; have H2_9 := Aside0.mk (t_.keep (show s0 ≠ s2 by omega) H2_8.out); have HB_9 := Aside0.mk (t_.below HB_8.out (by omega)); clear t_ gg_ H6_8 HB_8 H2_8))
        go_roundw
        case rel => exact ⟨j + 1, r, (j : Int), true, _, _, rfl, rfl, rfl, rfl, by first | rw [show wrap64 ((j : Int) + 1) = ((j + 1 : Nat) : Int) by (have := C9.out; unfold wrap64; omega)] | (simp; done), ⟨by have := C9.out; omega⟩, NL, ⟨stN_use HST.out HD.out (⟨⟨CE.out, X1.out.symm.trans CN.out⟩, .inl rfl⟩)⟩, H6_9, H2_9, HB_9⟩
        case measure =>
          (try rw [show wrap64 ((j : Int) + 1) = ((j + 1 : Nat) : Int) by (have := C9.out; unfold wrap64; omega)])
          simp only [intOf]
          have := C9.out
          omega
      by_cases cg : y0 < x0
      case neg =>
        have e2 : decide (y0 < x0) = false := decide_eq_false cg
        have CG := Aside0.mk cg
        clear cg
        go_wp2_with (first | ((with_reducible refine gate_dst (N := 25) rfl ?_); refine goesL_ (some 25) rfl rfl Tryd.func80 (by kernel_rfl) rfl #[.slice A0 l0.length c0, .int .i64 (j : Int)] rfl (by (try simp only [List.map_toArray, List.map_cons, List.map_nil]); first | done | rfl) ?_; refine (spec_l09At.calls A0 c0 l0 j _ (Kd.C_below HR0.out HB.out) HC0.out HJB.out HLM.out).mono ?_; rintro e_ w5 ⟨⟨A5, c5, rfl, hr5, hc5⟩, b_⟩; refine ⟨_, rfl, ?_⟩; have R5 := Aside0.mk hr5; have C5 := Aside0.mk hc5; clear hr5 hc5; have H6_5 := Aside0.mk (blk_below H6.out b_); have H2_5 := Aside0.mk (blk_below H2.out b_); have HB_5 := Aside0.mk (below_then HB.out HB.out.size b_); clear b_ H6 H2 HB) | ((with_reducible refine gate_dst (N := 26) rfl ?_); refine goesL_ (some 26) rfl rfl Tryd.func107 (by kernel_rfl) rfl #[.slice A5 (blk l0 j).length c5] rfl (by (try simp only [List.map_toArray, List.map_cons, List.map_nil]); first | done | rfl) ?_; refine (spec_DecodeFsinfo.calls A5 c5 (blk l0 j) r kd _ R5.out C5.out EF.out).mono ?_; rintro e_ w6 ⟨rfl, b_⟩; refine ⟨_, rfl, ?_⟩; have H6_6 := Aside0.mk (blk_below H6_5.out b_); have H2_6 := Aside0.mk (blk_below H2_5.out b_); have HB_6 := Aside0.mk (below_then HB_5.out HB_5.out.size b_); have hz2_ := blk_lt H2_6.out; have hz6_ := blk_lt H6_6.out; obtain ⟨s6, S6⟩ : ∃ s, Aside0 (w6.heap.size = s) := ⟨_, ⟨rfl⟩⟩; rw [S6.out] at hz2_ hz6_; clear b_ H6_5 H2_5 HB_5) | ((with_reducible refine gate_dst (N := 10) rfl ?_); refine hx_alloc rfl 10 rfl 127 rfl S6 (.agg (nums .i64 (List.replicate 68 0)).toArray) (nums .i64 (List.replicate 68 0)).toArray Z127 rfl ?_; intro w7 s7 Ls7 Ss7 b_ g_; have HX := Aside0.mk g_; have HB_7 := Aside0.mk (below_then HB_6.out HB_6.out.size b_); have H6_7 := Aside0.mk (blk_below H6_6.out b_); have H2_7 := Aside0.mk (blk_below H2_6.out b_); clear b_ g_ HB_6 H6_6 H2_6) | ((with_reducible refine gate_store (t := 127) (p := 10) (v := .tmp 27) rfl ?_); refine hx_store rfl rfl 127 (.tmp 10) (.tmp 27) rfl s6 68 rfl (nums .i64 r).toArray rfl (by kernel_rfl) (nums_size _ _ _ NL.out) (nums_one _ _) HX.out (by simp [nums]) ?_; intro w8 t_ gg_; have HX_8 := Aside0.mk gg_; have H2_8 := Aside0.mk (t_.keep (show s0 ≠ s6 by omega) H2_7.out); have H6_8 := Aside0.mk (t_.keep (show s2 ≠ s6 by omega) H6_7.out); have HB_8 := Aside0.mk (t_.below HB_7.out (by omega)); clear t_ gg_ HX HB_7 H2_7 H6_7) | ((with_reducible refine gate_dst (N := 33) rfl ?_); refine Go.Proofs.YtknlpjoidjgciaaDoorW.PrintTab2.ungd (by rfl) ?_; refine hx_loadf rfl 3 (.tmp 32) rfl s6 1 rfl Tryd.underlying3 rfl HX_8.out (lt_len (n := 68) NL.out (by decide)) ?_; rw [← X1.out]) | ((with_reducible refine gate_dst (N := 42) rfl ?_); refine Go.Proofs.YtknlpjoidjgciaaDoorW.PrintTab2.ungd (by rfl) ?_; refine hx_loadf rfl 3 (.tmp 41) rfl s6 0 rfl Tryd.underlying3 rfl HX_8.out (lt_len (n := 68) NL.out (by decide)) ?_; rw [← X0.out]) | ((with_reducible refine gate_dst (N := 44) rfl ?_); refine Go.Proofs.YtknlpjoidjgciaaDoorW.PrintTab2.ungd (by rfl) ?_; refine hx_loadf rfl 3 (.tmp 43) rfl s2 0 rfl Tryd.underlying3 rfl H6_8.out (lt_len (n := 68) HLL.out (by decide)) ?_; rw [← Y0.out]))
        go_roundw
        case rel => exact ⟨j + 1, L, s, _, _, _, rfl, rfl, rfl, rfl, by first | rw [show wrap64 ((j : Int) + 1) = ((j + 1 : Nat) : Int) by (have := C9.out; unfold wrap64; omega)] | (simp; done), ⟨by have := C9.out; omega⟩, HLL, ⟨stN_skip HST.out HD.out (fun h_ => h_.2.elim (fun h2_ => Bool.noConfusion h2_) (fun h2_ => by rw [← Y0.out, ← X0.out] at h2_; have h3_ := CG.out; omega))⟩, H6_8, H2_8, HB_8⟩
        case measure =>
          (try rw [show wrap64 ((j : Int) + 1) = ((j + 1 : Nat) : Int) by (have := C9.out; unfold wrap64; omega)])
          simp only [intOf]
          have := C9.out
          omega
      have e2 : decide (y0 < x0) = true := decide_eq_true cg
      have CG := Aside0.mk cg
      clear cg
      go_wp2_with (first | ((with_reducible refine gate_dst (N := 25) rfl ?_); refine goesL_ (some 25) rfl rfl Tryd.func80 (by kernel_rfl) rfl #[.slice A0 l0.length c0, .int .i64 (j : Int)] rfl (by (try simp only [List.map_toArray, List.map_cons, List.map_nil]); first | done | rfl) ?_; refine (spec_l09At.calls A0 c0 l0 j _ (Kd.C_below HR0.out HB.out) HC0.out HJB.out HLM.out).mono ?_; rintro e_ w5 ⟨⟨A5, c5, rfl, hr5, hc5⟩, b_⟩; refine ⟨_, rfl, ?_⟩; have R5 := Aside0.mk hr5; have C5 := Aside0.mk hc5; clear hr5 hc5; have H6_5 := Aside0.mk (blk_below H6.out b_); have H2_5 := Aside0.mk (blk_below H2.out b_); have HB_5 := Aside0.mk (below_then HB.out HB.out.size b_); clear b_ H6 H2 HB) | ((with_reducible refine gate_dst (N := 26) rfl ?_); refine goesL_ (some 26) rfl rfl Tryd.func107 (by kernel_rfl) rfl #[.slice A5 (blk l0 j).length c5] rfl (by (try simp only [List.map_toArray, List.map_cons, List.map_nil]); first | done | rfl) ?_; refine (spec_DecodeFsinfo.calls A5 c5 (blk l0 j) r kd _ R5.out C5.out EF.out).mono ?_; rintro e_ w6 ⟨rfl, b_⟩; refine ⟨_, rfl, ?_⟩; have H6_6 := Aside0.mk (blk_below H6_5.out b_); have H2_6 := Aside0.mk (blk_below H2_5.out b_); have HB_6 := Aside0.mk (below_then HB_5.out HB_5.out.size b_); have hz2_ := blk_lt H2_6.out; have hz6_ := blk_lt H6_6.out; obtain ⟨s6, S6⟩ : ∃ s, Aside0 (w6.heap.size = s) := ⟨_, ⟨rfl⟩⟩; rw [S6.out] at hz2_ hz6_; clear b_ H6_5 H2_5 HB_5) | ((with_reducible refine gate_dst (N := 10) rfl ?_); refine hx_alloc rfl 10 rfl 127 rfl S6 (.agg (nums .i64 (List.replicate 68 0)).toArray) (nums .i64 (List.replicate 68 0)).toArray Z127 rfl ?_; intro w7 s7 Ls7 Ss7 b_ g_; have HX := Aside0.mk g_; have HB_7 := Aside0.mk (below_then HB_6.out HB_6.out.size b_); have H6_7 := Aside0.mk (blk_below H6_6.out b_); have H2_7 := Aside0.mk (blk_below H2_6.out b_); clear b_ g_ HB_6 H6_6 H2_6) | ((with_reducible refine gate_store (t := 127) (p := 10) (v := .tmp 27) rfl ?_); refine hx_store rfl rfl 127 (.tmp 10) (.tmp 27) rfl s6 68 rfl (nums .i64 r).toArray rfl (by kernel_rfl) (nums_size _ _ _ NL.out) (nums_one _ _) HX.out (by simp [nums]) ?_; intro w8 t_ gg_; have HX_8 := Aside0.mk gg_; have H2_8 := Aside0.mk (t_.keep (show s0 ≠ s6 by omega) H2_7.out); have H6_8 := Aside0.mk (t_.keep (show s2 ≠ s6 by omega) H6_7.out); have HB_8 := Aside0.mk (t_.below HB_7.out (by omega)); clear t_ gg_ HX HB_7 H2_7 H6_7) | ((with_reducible refine gate_dst (N := 33) rfl ?_); refine Go.Proofs.YtknlpjoidjgciaaDoorW.PrintTab2.ungd (by rfl) ?_; refine hx_loadf rfl 3 (.tmp 32) rfl s6 1 rfl Tryd.underlying3 rfl HX_8.out (lt_len (n := 68) NL.out (by decide)) ?_; rw [← X1.out]) | ((with_reducible refine gate_dst (N := 42) rfl ?_); refine Go.Proofs.YtknlpjoidjgciaaDoorW.PrintTab2.ungd (by rfl) ?_; refine hx_loadf rfl 3 (.tmp 41) rfl s6 0 rfl Tryd.underlying3 rfl HX_8.out (lt_len (n := 68) NL.out (by decide)) ?_; rw [← X0.out]) | ((with_reducible refine gate_dst (N := 44) rfl ?_); refine Go.Proofs.YtknlpjoidjgciaaDoorW.PrintTab2.ungd (by rfl) ?_; refine hx_loadf rfl 3 (.tmp 43) rfl s2 0 rfl Tryd.underlying3 rfl H6_8.out (lt_len (n := 68) HLL.out (by decide)) ?_; rw [← Y0.out]) | ((with_reducible refine gate_dst (N := 48) rfl ?_); refine hx_load rfl 127 (.tmp 10) rfl s6 68 rfl Tryd.underlying127 rfl (by kernel_rfl) HX_8.out (nums_size _ _ _ NL.out) ?_) | ((with_reducible refine gate_store (t := 127) (p := 6) (v := .tmp 48) rfl ?_); refine hx_store rfl rfl 127 (.tmp 6) (.tmp 48) rfl s2 68 rfl (nums .i64 r).toArray rfl (by kernel_rfl) (nums_size _ _ _ NL.out) (nums_one _ _) H6_8.out (nums_size _ _ _ HLL.out) ?_; intro w9 t_ gg_; have H6_9 := Aside0.mk gg_; have H2_9 := Aside0.mk (t_.keep (show s0 ≠ s2 by omega) H2_8.out); have HB_9 := Aside0.mk (t_.below HB_8.out (by omega)); clear t_ gg_ H6_8 HB_8 H2_8))
      go_roundw
      case rel => exact ⟨j + 1, r, (j : Int), true, _, _, rfl, rfl, rfl, rfl, by first | rw [show wrap64 ((j : Int) + 1) = ((j + 1 : Nat) : Int) by (have := C9.out; unfold wrap64; omega)] | (simp; done), ⟨by have := C9.out; omega⟩, NL, ⟨stN_use HST.out HD.out (⟨⟨CE.out, X1.out.symm.trans CN.out⟩, .inr (by rw [← Y0.out, ← X0.out]; exact CG.out)⟩)⟩, H6_9, H2_9, HB_9⟩
      case measure =>
        (try rw [show wrap64 ((j : Int) + 1) = ((j + 1 : Nat) : Int) by (have := C9.out; unfold wrap64; omega)])
        simp only [intOf]
        have := C9.out
        omega
    · obtain rfl : j = 2 := by have := hj.out; omega
      have c9b0 : decide ((2 : Int) < 2) = false := by decide
      have h := H.out
      rw [HST.out] at h
      have NLx := HLL
      clear c9 H
      cases f
      case false =>
        simp only [chosen, Bool.false_eq_true, if_false, Prod.mk.injEq] at h
        obtain ⟨rfl, rfl, rfl⟩ := h
        go_wp2_with (first | ((with_reducible refine gate_store (t := 127) (p := 2) (v := .tmp 52) rfl ?_); refine hx_store rfl rfl 127 (.tmp 2) (.tmp 52) rfl s0 68 rfl (nums .i64 (List.replicate 68 0)).toArray rfl (by kernel_rfl) (nums_size _ _ _ NZ.out) (nums_one _ _) H2.out (by simp [nums]) ?_; intro we t_ gg_; have HE := Aside0.mk gg_; have HEB := Aside0.mk (t_.below HB.out (by omega)); clear t_ gg_ H2 HB ))
        exact bodyPost_ret (results_ctt rfl _ _ s0 127 (nums .i64 (List.replicate 68 0)).toArray (0, 0) _ rfl HE.out Tryd.underlying127 rfl (by rw [nums_size _ _ _ NZ.out]; kernel_rfl)) rfl ⟨rfl, HEB.out⟩
      simp only [chosen, if_true, Prod.mk.injEq] at h
      obtain ⟨rfl, rfl, rfl⟩ := h
      go_wp2_with (first | ((with_reducible refine gate_dst (N := 53) rfl ?_); refine hx_load rfl 127 (.tmp 6) rfl s2 68 rfl Tryd.underlying127 rfl (by kernel_rfl) H6.out (nums_size _ _ _ HLL.out) ?_) | ((with_reducible refine gate_store (t := 127) (p := 2) (v := .tmp 53) rfl ?_); refine hx_store rfl rfl 127 (.tmp 2) (.tmp 53) rfl s0 68 rfl (nums .i64 L).toArray rfl (by kernel_rfl) (nums_size _ _ _ HLL.out) (nums_one _ _) H2.out (nums_size _ _ _ NZ.out) ?_; intro we t_ gg_; have HE := Aside0.mk gg_; have HEB := Aside0.mk (t_.below HB.out (by omega)); clear t_ gg_ H2 HB ))
      exact bodyPost_ret (results_ctt rfl _ _ s0 127 (nums .i64 L).toArray (0, 0) _ rfl HE.out Tryd.underlying127 rfl (by rw [nums_size _ _ _ NLx.out]; kernel_rfl)) rfl ⟨rfl, HEB.out⟩
mutual
def spec_CheckName.j0 : Nat → ByteArray → Bool → Option (Int)
  | 0, _, _ => none
  | k + 1, x0, x13 => if x13 = true then (some 7) else (if (x0.size : Int) > 26 then (some 12) else (spec_CheckName.l0 k x0 0))
def spec_CheckName.l0 : Nat → ByteArray → Int → Option (Int)
  | 0, _, _ => none
  | k + 1, x0, x3 => if x3 < (x0.size : Int) then (if 0 ≤ x3 then (if (bt x0 x3) = 47 then (some 7) else (if (bt x0 x3) = 0 then (some 7) else (spec_CheckName.l0 k x0 (wrap64 (x3 + 1))))) else (none)) else (some 0)
end
def spec_CheckName.f (k : Nat) (a0 : ByteArray) : Option (Int) := if a0.toList = ([] : List UInt8) then (spec_CheckName.j0 k a0 true) else (if a0.toList = ([46] : List UInt8) then (spec_CheckName.j0 k a0 true) else (spec_CheckName.j0 k a0 (a0.toList == ([46, 46] : List UInt8))))
theorem spec_CheckName.mono_l : ∀ k, (∀ y0 y1, LeO (spec_CheckName.j0 k y0 y1) (spec_CheckName.j0 (k + 1) y0 y1)) ∧ (∀ y0 y1, LeO (spec_CheckName.l0 k y0 y1) (spec_CheckName.l0 (k + 1) y0 y1))
  | 0 => ⟨fun _ _ r h => by simp [spec_CheckName.j0] at h, fun _ _ r h => by simp [spec_CheckName.l0] at h⟩
  | k + 1 => by
    obtain ⟨ih0, ih1⟩ := spec_CheckName.mono_l k
    refine ⟨?_, ?_⟩
    · intro y0 y1
      unfold spec_CheckName.j0
      repeat' first
      | (with_reducible exact ih0 _ _)
      | (with_reducible exact ih1 _ _)
      | (with_reducible exact LeO.refl _)
      | (with_reducible exact LeO.none _)
      | (with_reducible refine LeO.ite ?_ ?_)
      | (with_reducible refine LeO.bind ?_ (fun _ => ?_))
      | exact ih0 _ _
      | exact ih1 _ _
      | exact LeO.none _
      | refine LeO.ite ?_ ?_
      | refine LeO.bind ?_ (fun _ => ?_)
    · intro y0 y1
      unfold spec_CheckName.l0
      repeat' first
      | (with_reducible exact ih0 _ _)
      | (with_reducible exact ih1 _ _)
      | (with_reducible exact LeO.refl _)
      | (with_reducible exact LeO.none _)
      | (with_reducible refine LeO.ite ?_ ?_)
      | (with_reducible refine LeO.bind ?_ (fun _ => ?_))
      | exact ih0 _ _
      | exact ih1 _ _
      | exact LeO.none _
      | refine LeO.ite ?_ ?_
      | refine LeO.bind ?_ (fun _ => ?_)
theorem spec_CheckName.mono : ∀ a0 k, LeO (spec_CheckName.f k a0) (spec_CheckName.f (k + 1) a0) := by
  intro a0 k
  obtain ⟨ih0, ih1⟩ := spec_CheckName.mono_l k
  unfold spec_CheckName.f
  repeat' first
      | (with_reducible exact ih0 _ _)
      | (with_reducible exact ih1 _ _)
      | (with_reducible exact LeO.refl _)
      | (with_reducible exact LeO.none _)
      | (with_reducible refine LeO.ite ?_ ?_)
      | (with_reducible refine LeO.bind ?_ (fun _ => ?_))
      | exact ih0 _ _
      | exact ih1 _ _
      | exact LeO.none _
      | refine LeO.ite ?_ ?_
      | refine LeO.bind ?_ (fun _ => ?_)
set_option maxHeartbeats 8000000 in
set_option maxRecDepth 100000 in
theorem spec_CheckName.calls (k : Nat) (a0 : ByteArray) (r : Int) (w : World) (h : spec_CheckName.f k a0 = some r) :
    Calls Tryd.prog 133 #[.string a0] w fun e w' => e = .returned (.int .i64 r) ∧ Drawn0 w w' := by
  have H : (if a0.toList = ([] : List UInt8) then (spec_CheckName.j0 k a0 true) else (if a0.toList = ([46] : List UInt8) then (spec_CheckName.j0 k a0 true) else (spec_CheckName.j0 k a0 (a0.toList == ([46, 46] : List UInt8))))) = some r := h
  clear h
  have HC2 := Aside0.mk H
  clear H
  go_enter Tryd.func133, Tryd.ntmps133
  go_upto_region 1 with (fail)
  go_cut [13] (fun v13 wc => ∃ (kq : Nat) (x13_1 : Bool), v13 = .bool x13_1 ∧ Aside0 (spec_CheckName.j0 kq a0 x13_1 = some r) ∧ Aside0 (kq ≤ k) ∧ Drawn0 w wc)
  case first =>
    have H := HC2.out
    clear HC2
    by_cases c3 : a0.toList = ([] : List UInt8)
    · rw [if_pos c3] at H
      have c3b0 : (a0.toList == ([] : List UInt8)) = true := beq_iff_eq.mpr c3
      have c3b1 : (a0.toList != ([] : List UInt8)) = false := bne_eq_false_iff_eq.mpr c3
      clear c3
      (first | rw [c3b0] | (simp only [i64_w, i32_w]; rw [c3b0]) | skip)
      have H' := Aside0.mk H
      clear H
      go_wp2
      go_meet
      case rel => exact ⟨_, (true), (by first | rfl | (simp; done) | (simp [*]; done)), H', ⟨by first | omega | exact Nat.le_refl _⟩, by repeat (first | exact Drawn0.refl _ | apply Drawn0.step)⟩
    · rw [if_neg c3] at H
      have c3b0 : (a0.toList == ([] : List UInt8)) = false := beq_eq_false_iff_ne.mpr c3
      have c3b1 : (a0.toList != ([] : List UInt8)) = true := bne_iff_ne.mpr c3
      (first | rw [c3b0] | (simp only [i64_w, i32_w]; rw [c3b0]) | skip)
      by_cases c4 : a0.toList = ([46] : List UInt8)
      · rw [if_pos c4] at H
        have c4b0 : (a0.toList == ([46] : List UInt8)) = true := beq_iff_eq.mpr c4
        have c4b1 : (a0.toList != ([46] : List UInt8)) = false := bne_eq_false_iff_eq.mpr c4
        clear c4
        have H' := Aside0.mk H
        clear H
        go_wp2
        go_meet
        case rel => exact ⟨_, (true), (by first | rfl | (simp; done) | (simp [*]; done)), H', ⟨by first | omega | exact Nat.le_refl _⟩, by repeat (first | exact Drawn0.refl _ | apply Drawn0.step)⟩
      · rw [if_neg c4] at H
        have c4b0 : (a0.toList == ([46] : List UInt8)) = false := beq_eq_false_iff_ne.mpr c4
        have c4b1 : (a0.toList != ([46] : List UInt8)) = true := bne_iff_ne.mpr c4
        have H' := Aside0.mk H
        clear H
        go_wp2
        go_meet
        case rel => exact ⟨_, ((a0.toList == ([46, 46] : List UInt8))), (by first | rfl | (simp; done) | (simp [*]; done)), H', ⟨by first | omega | exact Nat.le_refl _⟩, by repeat (first | exact Drawn0.refl _ | apply Drawn0.step)⟩
  case rest =>
    clear HC2
    try clear c1
    try clear p2
    try clear c3
    try clear c3b0
    try clear c3b1
    try clear c4
    try clear c4b0
    try clear c4b1
    obtain ⟨kq, x13_1, rfl, HA, HJ1, ⟨mc1, rfl⟩⟩ := hcut
    cases kq with
    | zero => exact absurd HA.out (by simp [spec_CheckName.j0])
    | succ kj1 =>
      have H := HA.out
      clear HA
      simp only [spec_CheckName.j0] at H
      by_cases c5 : x13_1 = true
      · subst c5
        have H1 : (some 7) = some r := by rw [if_pos rfl] at H; exact H
        clear H
        have H := H1
        clear H1
        obtain rfl := Option.some.inj H
        go_wp2
        go_ret
        exact ⟨by first | rfl | (simp; done) | (simp [*]; done), by repeat (first | exact Drawn0.refl _ | apply Drawn0.step)⟩
      · replace c5 := Bool.eq_false_iff.mpr c5
        subst c5
        have H1 : (if (a0.size : Int) > 26 then (some 12) else (spec_CheckName.l0 kj1 a0 0)) = some r := by rw [if_neg (show ¬ (false = true) by decide)] at H; exact H
        clear H
        have H := H1
        clear H1
        by_cases c6 : (a0.size : Int) > 26
        · rw [if_pos c6] at H
          have c6b0 : decide (26 < (a0.size : Int)) = true := decide_eq_true c6
          have c6b1 : decide (26 < a0.size) = true := decide_eq_true (by omega)
          clear c6
          obtain rfl := Option.some.inj H
          go_wp2
          go_ret
          exact ⟨by first | rfl | (simp; done) | (simp [*]; done), by repeat (first | exact Drawn0.refl _ | apply Drawn0.step)⟩
        · rw [if_neg c6] at H
          have c6b0 : decide (26 < (a0.size : Int)) = false := decide_eq_false c6
          have c6b1 : decide (26 < a0.size) = false := decide_eq_false (by omega)
          clear c6
          have H' := Aside0.mk H
          clear H
          go_wp2
          go_loopg [3] kj1 (fun kq v3 w' => ∃ (x3_2 : Int), v3 = .int .i64 x3_2 ∧ Aside0 (spec_CheckName.l0 kq a0 x3_2 = some r) ∧ Aside0 (kq ≤ kj1) ∧ Drawn0 w w')
          case atStart => exact ⟨(0), (by first | rfl | (simp; done) | (simp [*]; done)), H', ⟨Nat.le_refl _⟩, by repeat (first | exact Drawn0.refl _ | apply Drawn0.step)⟩
          case round =>
            clear H'
            try clear c1
            try clear p2
            try clear c3
            try clear c3b0
            try clear c3b1
            try clear c4
            try clear c4b0
            try clear c4b1
            try clear c5
            try clear c6
            try clear c6b0
            try clear c6b1
            try clear p2
            obtain ⟨x3_2, rfl, HA, HK2, ⟨m2, rfl⟩⟩ := hrel
            cases gk with
            | zero => exact absurd HA.out (by simp [spec_CheckName.l0])
            | succ k2 =>
              have H := HA.out
              clear HA
              simp only [spec_CheckName.l0] at H
              by_cases c7 : x3_2 < (a0.size : Int)
              · rw [if_pos c7] at H
                have c7b0 : decide (x3_2 < (a0.size : Int)) = true := decide_eq_true c7
                clear c7
                by_cases c8 : 0 ≤ x3_2
                · rw [if_pos c8] at H
                  have c8b0 : decide (0 ≤ x3_2) = true := decide_eq_true c8
                  clear c8
                  by_cases c10 : (bt a0 x3_2) = 47
                  · rw [if_pos c10] at H
                    have c10b0 : ((bt a0 x3_2) == 47) = true := beq_iff_eq.mpr c10
                    have c10b1 : ((bt a0 x3_2) != 47) = false := bne_eq_false_iff_eq.mpr c10
                    clear c10
                    obtain rfl := Option.some.inj H
                    have p9 : 0 ≤ (x3_2 : Int) := of_decide_eq_true (by first | (with_reducible assumption) | assumption)
                    have q9 : x3_2 < (a0.size : Int) := of_decide_eq_true (by first | (with_reducible assumption) | assumption)
                    have hx9 := bt_at a0 x3_2
                    replace p9 := eq_true p9
                    replace q9 := eq_true q9
                    go_wp2
                    go_ret
                    exact ⟨by first | rfl | (simp; done) | (simp [*]; done), by repeat (first | exact Drawn0.refl _ | apply Drawn0.step)⟩
                  · rw [if_neg c10] at H
                    have c10b0 : ((bt a0 x3_2) == 47) = false := beq_eq_false_iff_ne.mpr c10
                    have c10b1 : ((bt a0 x3_2) != 47) = true := bne_iff_ne.mpr c10
                    by_cases c12 : (bt a0 x3_2) = 0
                    · rw [if_pos c12] at H
                      have c12b0 : ((bt a0 x3_2) == 0) = true := beq_iff_eq.mpr c12
                      have c12b1 : ((bt a0 x3_2) != 0) = false := bne_eq_false_iff_eq.mpr c12
                      clear c12
                      obtain rfl := Option.some.inj H
                      have p9 : 0 ≤ (x3_2 : Int) := of_decide_eq_true (by first | (with_reducible assumption) | assumption)
                      have q9 : x3_2 < (a0.size : Int) := of_decide_eq_true (by first | (with_reducible assumption) | assumption)
                      have hx9 := bt_at a0 x3_2
                      replace p9 := eq_true p9
                      replace q9 := eq_true q9
                      have p11 : 0 ≤ (x3_2 : Int) := of_decide_eq_true (by first | (with_reducible assumption) | assumption)
                      have q11 : x3_2 < (a0.size : Int) := of_decide_eq_true (by first | (with_reducible assumption) | assumption)
                      have hx11 := bt_at a0 x3_2
                      replace p11 := eq_true p11
                      replace q11 := eq_true q11
                      go_wp2
                      go_ret
                      exact ⟨by first | rfl | (simp; done) | (simp [*]; done), by repeat (first | exact Drawn0.refl _ | apply Drawn0.step)⟩
                    · rw [if_neg c12] at H
                      have c12b0 : ((bt a0 x3_2) == 0) = false := beq_eq_false_iff_ne.mpr c12
                      have c12b1 : ((bt a0 x3_2) != 0) = true := bne_iff_ne.mpr c12
                      have H' := Aside0.mk H
                      clear H
                      have p9 : 0 ≤ (x3_2 : Int) := of_decide_eq_true (by first | (with_reducible assumption) | assumption)
                      have q9 : x3_2 < (a0.size : Int) := of_decide_eq_true (by first | (with_reducible assumption) | assumption)
                      have hx9 := bt_at a0 x3_2
                      replace p9 := eq_true p9
                      replace q9 := eq_true q9
                      have p11 : 0 ≤ (x3_2 : Int) := of_decide_eq_true (by first | (with_reducible assumption) | assumption)
                      have q11 : x3_2 < (a0.size : Int) := of_decide_eq_true (by first | (with_reducible assumption) | assumption)
                      have hx11 := bt_at a0 x3_2
                      replace p11 := eq_true p11
                      replace q11 := eq_true q11
                      go_wp2
                      go_roundg k2
                      case measure => have := HJ1.out; have := HK2.out; omega
                      case rel => exact ⟨(wrap64 (x3_2 + 1)), (by first | rfl | (simp; done) | (simp [*]; done)), H', ⟨by have := HJ1.out; have := HK2.out; omega⟩, by repeat (first | exact Drawn0.refl _ | apply Drawn0.step)⟩
                · rw [if_neg c8] at H
                  exact absurd H (by simp)
              · rw [if_neg c7] at H
                have c7b0 : decide (x3_2 < (a0.size : Int)) = false := decide_eq_false c7
                clear c7
                obtain rfl := Option.some.inj H
                go_wp2
                go_ret
                exact ⟨by first | rfl | (simp; done) | (simp [*]; done), by repeat (first | exact Drawn0.refl _ | apply Drawn0.step)⟩
end Go.Proofs.YtknlpjoidjgciaaDoor.PFnExactSnapshots
