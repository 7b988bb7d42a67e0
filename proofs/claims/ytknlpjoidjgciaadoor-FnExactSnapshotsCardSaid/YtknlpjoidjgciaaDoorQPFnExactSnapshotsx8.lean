/- PFnExactSnapshotsx8: functions of the law, walked; written by a program of this session. No condition. -/
import Derived.Test.YtknlpjoidjgciaaDoorQPFnExactSnapshotsx0
import Derived.Test.YtknlpjoidjgciaaDoorQPFnExactSnapshotsx2
import Derived.Test.YtknlpjoidjgciaaDoorQPFnExactSnapshotsx3
import Derived.Test.YtknlpjoidjgciaaDoorQPFnExactSnapshotsx5
import Derived.Test.YtknlpjoidjgciaaDoorQPFnExactSnapshotsx7
namespace Go.Proofs.YtknlpjoidjgciaaDoor.PFnExactSnapshots
open Go.RowKit Go.Proofs.YtknlpjoidjgciaaDoorW.PrintWords Go.Proofs.YtknlpjoidjgciaaDoorW.PrintLast Go.Proofs.YtknlpjoidjgciaaDoorW.PrintMore
attribute [local go_sem] max2_int min2_int max_two min_two max_three min_three max_four min_four
set_option linter.unusedVariables false
set_option linter.unusedSimpArgs false
open Go.Proofs.YtknlpjoidjgciaaDoorW Go.Proofs.YtknlpjoidjgciaaDoorW.PrintHand Go.Proofs.YtknlpjoidjgciaaDoorW.PrintHx
open Go.Proofs.YtknlpjoidjgciaaDoorW.PrintLe Go.Proofs.YtknlpjoidjgciaaDoorW.PrintGrow Go.Proofs.YtknlpjoidjgciaaDoorW.PrintDec Go.Proofs.YtknlpjoidjgciaaDoorW.PrintIno Go.Proofs.YtknlpjoidjgciaaDoorW.PrintTab2 Go.Proofs.YtknlpjoidjgciaaDoorW.PrintTab3 Go.Proofs.YtknlpjoidjgciaaDoorW.PrintFsi Go.Proofs.YtknlpjoidjgciaaDoorW.PrintFsb Go.Proofs.YtknlpjoidjgciaaDoorW.PrintFsd Go.Proofs.YtknlpjoidjgciaaDoorW.PrintCrc Go.Proofs.YtknlpjoidjgciaaDoorW.PrintSnp
theorem spec_EncodeSnap.sealed {x : Int} {s : ByteArray} {p q : Int} {r : List Int} (hs : s.size ≤ 26) (hr : r.length = 15) : spec_l02Sealed.f 2000 (snapBody x s p q r) = some (snapBytes x s p q r) := by
  have hb := snapFill_byt x s p q r
  have hl : (snapFill x s p q r).length = 508 := snapFill_length hs hr
  have hc := crcV_range hb
  unfold spec_l02Sealed.f
  rw [show spec_l02Fill.f 2000 (snapBody x s p q r) 508 = some (snapFill x s p q r) from l02Fill_f (snapBody x s p q r) 508 388 2000 (by decide) (by rw [snapBody_length hs hr]) (by decide)]
  simp only [Option.bind_some]
  rw [specCrc_v (snapFill x s p q r) hb (by rw [hl]; decide) 2000 (by rw [hl]; decide)]
  simp only [Option.bind_some]
  rw [w64 (by omega) (by omega), show spec_l02Put.f 2000 (crcV (snapFill x s p q r)) 4 = some (leB (crcV (snapFill x s p q r)) 4) from l02Put_f _ 4 2000 (by decide) hc.1 (by omega) (by decide)]
  simp only [Option.bind_some]
  rw [if_pos (by rw [hl, leB_length]; decide)]
  rfl
set_option maxHeartbeats 8000000 in
set_option maxRecDepth 100000 in
theorem spec_EncodeSnap.calls (x : Int) (s : ByteArray) (p q : Int) (r : List Int) (nr : r.length = 15) (k : Nat) (c : Int) (hc : spec_CheckName.f k s = some c) (hsz : c = 0 → s.size ≤ 26) (r1 : List Int) (r2 : Int) (w : World) (h : (if snapGood x c p q r = true then (snapBytes x s p q r, (0 : Int)) else ([], 7)) = (r1, r2)) :
    Calls Tryd.prog 110 #[.agg (snapC x s p q r).toArray] w fun e w' => ∃ v0_ : Value, e = .returned (.tuple #[v0_, .int .i64 r2]) ∧ Kd.R (Kd.int .u8) 5 w' w.heap.size (fun _ => True) v0_ r1 ∧ Below w.heap.size w w' := by
  have H := Aside0.mk h
  have HSZ := Aside0.mk hsz
  clear h hsz
  have NR := Aside0.mk nr
  have WC := Aside0.mk hc
  clear nr hc
  obtain ⟨y0, hy0⟩ : ∃ y, y = r.getD 0 0 := ⟨_, rfl⟩
  obtain ⟨b0, hb0⟩ : ∃ b, b = rng x 1 31 := ⟨_, rfl⟩
  have Wb0 := Aside0.mk (show spec_l02Within.f x 1 31 = some b0 by rw [hb0]; exact within_i _ _ _)
  obtain ⟨b2, hb2⟩ : ∃ b, b = rng p 1 1099511627776 := ⟨_, rfl⟩
  have Wb2 := Aside0.mk (show spec_l02Within.f p 1 1099511627776 = some b2 by rw [hb2]; exact within_i _ _ _)
  obtain ⟨b3, hb3⟩ : ∃ b, b = rng q 1 1099511627776 := ⟨_, rfl⟩
  have Wb3 := Aside0.mk (show spec_l02Within.f q 1 1099511627776 = some b3 by rw [hb3]; exact within_i _ _ _)
  obtain ⟨b4, hb4⟩ : ∃ b, b = rootGood r := ⟨_, rfl⟩
  have Wb4 := Aside0.mk (show spec_l02Root.f r = some b4 by rw [hb4]; rfl)
  obtain ⟨b5, hb5⟩ : ∃ b, b = sizeI y0 := ⟨_, rfl⟩
  have Wb5 := Aside0.mk (show spec_l02TableSize.f y0 = some b5 by rw [hb5]; exact size_i _)
  obtain ⟨b1, hb1⟩ : ∃ b, b = decide (c = 0) := ⟨_, rfl⟩
  have HIN := Aside0.mk (show snapGood x c p q r = (b0 && (b1 && (b2 && (b3 && (b4 && b5))))) by rw [hb0, hb1, hb2, hb3, hb4, hb5, hy0]; rfl)
  have HY0 := Aside0.mk hy0
  have HB1_ := Aside0.mk (show (c == 0) = b1 by rw [hb1]; rfl)
  clear hb0 hb1 hb2 hb3 hb4 hb5 hy0
  have HB0 : Aside0 (Below w.heap.size w w) := ⟨Below.refl _ _⟩
  obtain ⟨s0, Sz0⟩ : ∃ s0, Aside0 (w.heap.size = s0) := ⟨_, ⟨rfl⟩⟩
  have hw0 : w.heap.size ≤ s0 := Nat.le_of_eq Sz0.out
  have hw1 : s0 ≤ w.heap.size := Nat.le_of_eq Sz0.out.symm
  have HBN := Aside0.mk (show (c != 0) = !b1 by rw [← HB1_.out]; rfl)
  have info5_ : (Tryd.prog.info? 5).map (fun i => (i.zero, i.size, i.bytes)) = some (some (.int .u8 0), 1, 1) := by kernel_rfl
  go_enter Tryd.func110, Tryd.ntmps110
  go_wp2_with (first | ((with_reducible refine gate_dst (N := 1) rfl ?_); refine hx_box rfl 1 rfl 131 (.tmp 0) rfl Sz0 (.agg (snapC x s p q r).toArray) (snapC x s p q r).toArray rfl (by simp [Value.cells]) ?_; intro w1 s1 L1 Sz1 b1_ g_; have H1 := Aside0.mk g_; have HB := Aside0.mk (below_then HB0.out HB0.out.size b1_); clear g_ HB0 b1_) | ((with_reducible refine gate_dst (N := 6) rfl ?_); refine wpList_ld1 rfl 3 (.tmp 5) rfl s0 0 rfl (.int .i64 x) Tryd.underlying3 rfl H1.out rfl ?_) | ((with_reducible refine gate_dst (N := 7) rfl ?_); refine goesL_ (some 7) rfl rfl Tryd.func132 (by kernel_rfl) rfl #[.int .i64 x, .int .i64 1, .int .i64 31] rfl (by (try simp only [List.map_toArray, List.map_cons, List.map_nil]); first | done | rfl) ?_; refine (spec_l02Within.calls x 1 31 b0 _ Wb0.out).mono ?_; rintro e_ w_ ⟨rfl, d_⟩; have b_ := kept_drawn d_; refine ⟨_, rfl, ?_⟩; have Hn := Aside0.mk (blk_below H1.out b_); have HBn := Aside0.mk (below_then HB.out HB.out.size b_); clear b_ d_ H1 HB; have H1 := Hn; have HB := HBn; clear Hn HBn; cases b0) | ((with_reducible refine gate_dst (N := 11) rfl ?_); refine Go.Proofs.YtknlpjoidjgciaaDoorW.PrintTab2.ungd (by rfl) ?_; refine wpList_ld1 rfl 9 (.tmp 10) rfl s0 1 rfl (.string s) Tryd.underlying9 rfl H1.out rfl ?_) | ((with_reducible refine gate_dst (N := 12) rfl ?_); refine Go.Proofs.YtknlpjoidjgciaaDoorW.PrintTab2.ungd (by rfl) ?_; refine goesL_ (some 12) rfl rfl Tryd.func133 (by kernel_rfl) rfl #[.string s] rfl (by (try simp only [List.map_toArray, List.map_cons, List.map_nil]); first | done | rfl) ?_; refine (spec_CheckName.calls k s c _ WC.out).mono ?_; rintro e_ w_ ⟨rfl, d_⟩; have b_ := kept_drawn d_; refine ⟨_, rfl, ?_⟩; have Hn := Aside0.mk (blk_below H1.out b_); have HBn := Aside0.mk (below_then HB.out HB.out.size b_); clear b_ d_ H1 HB; have H1 := Hn; have HB := HBn; clear Hn HBn) | ((with_reducible refine gate_dst (N := 13) rfl ?_); refine Go.Proofs.YtknlpjoidjgciaaDoorW.PrintTab2.ungd (by rfl) ?_; refine hx_neqi rfl 3 3 (.tmp 12) _ rfl Tryd.underlying3 c 0 rfl rfl (!b1) HBN ?_; cases b1) | ((with_reducible refine gate_dst (N := 17) rfl ?_); refine Go.Proofs.YtknlpjoidjgciaaDoorW.PrintTab2.ungd (by rfl) ?_; refine wpList_ld1 rfl 3 (.tmp 16) rfl s0 2 rfl (.int .i64 p) Tryd.underlying3 rfl H1.out rfl ?_) | ((with_reducible refine gate_dst (N := 18) rfl ?_); refine Go.Proofs.YtknlpjoidjgciaaDoorW.PrintTab2.ungd (by rfl) ?_; refine goesL_ (some 18) rfl rfl Tryd.func132 (by kernel_rfl) rfl #[.int .i64 p, .int .i64 1, .int .i64 1099511627776] rfl (by (try simp only [List.map_toArray, List.map_cons, List.map_nil]); first | done | rfl) ?_; refine (spec_l02Within.calls p 1 1099511627776 b2 _ Wb2.out).mono ?_; rintro e_ w_ ⟨rfl, d_⟩; have b_ := kept_drawn d_; refine ⟨_, rfl, ?_⟩; have Hn := Aside0.mk (blk_below H1.out b_); have HBn := Aside0.mk (below_then HB.out HB.out.size b_); clear b_ d_ H1 HB; have H1 := Hn; have HB := HBn; clear Hn HBn; cases b2) | ((with_reducible refine gate_dst (N := 23) rfl ?_); refine Go.Proofs.YtknlpjoidjgciaaDoorW.PrintTab2.ungd (by rfl) ?_; refine wpList_ld1 rfl 3 (.tmp 22) rfl s0 3 rfl (.int .i64 q) Tryd.underlying3 rfl H1.out rfl ?_) | ((with_reducible refine gate_dst (N := 24) rfl ?_); refine Go.Proofs.YtknlpjoidjgciaaDoorW.PrintTab2.ungd (by rfl) ?_; refine goesL_ (some 24) rfl rfl Tryd.func132 (by kernel_rfl) rfl #[.int .i64 q, .int .i64 1, .int .i64 1099511627776] rfl (by (try simp only [List.map_toArray, List.map_cons, List.map_nil]); first | done | rfl) ?_; refine (spec_l02Within.calls q 1 1099511627776 b3 _ Wb3.out).mono ?_; rintro e_ w_ ⟨rfl, d_⟩; have b_ := kept_drawn d_; refine ⟨_, rfl, ?_⟩; have Hn := Aside0.mk (blk_below H1.out b_); have HBn := Aside0.mk (below_then HB.out HB.out.size b_); clear b_ d_ H1 HB; have H1 := Hn; have HB := HBn; clear Hn HBn; cases b3) | ((with_reducible refine gate_dst (N := 29) rfl ?_); refine Go.Proofs.YtknlpjoidjgciaaDoorW.PrintTab2.ungd (by rfl) ?_; refine wpList_ld rfl 124 (.tmp 28) rfl s0 4 15 rfl (nums .i64 r).toArray Tryd.underlying124 rfl (by kernel_rfl) H1.out (by rw [snapC_size NR.out]; decide) (snapC_root NR.out) ?_) | ((with_reducible refine gate_dst (N := 30) rfl ?_); refine Go.Proofs.YtknlpjoidjgciaaDoorW.PrintTab2.ungd (by rfl) ?_; refine goesL_ (some 30) rfl rfl Tryd.func134 (by kernel_rfl) rfl #[.agg (nums .i64 r).toArray] rfl (by (try simp only [List.map_toArray, List.map_cons, List.map_nil]); first | done | rfl) ?_; refine (spec_l02Root.calls r NR.out b4 _ Wb4.out).mono ?_; rintro e_ w_ ⟨rfl, d_⟩; have b_ := d_; refine ⟨_, rfl, ?_⟩; have Hn := Aside0.mk (blk_below H1.out b_); have HBn := Aside0.mk (below_then HB.out HB.out.size b_); clear b_ d_ H1 HB; have H1 := Hn; have HB := HBn; clear Hn HBn; cases b4) | ((with_reducible refine gate_dst (N := 36) rfl ?_); refine Go.Proofs.YtknlpjoidjgciaaDoorW.PrintTab2.ungd (by rfl) ?_; refine wpList_ld1 rfl 3 (.tmp 35) rfl s0 4 rfl (.int .i64 y0) Tryd.underlying3 rfl H1.out (by rw [HY0.out]; exact snapC_at4 NR.out) ?_) | ((with_reducible refine gate_dst (N := 37) rfl ?_); refine Go.Proofs.YtknlpjoidjgciaaDoorW.PrintTab2.ungd (by rfl) ?_; refine goesL_ (some 37) rfl rfl Tryd.func135 (by kernel_rfl) rfl #[.int .i64 y0] rfl (by (try simp only [List.map_toArray, List.map_cons, List.map_nil]); first | done | rfl) ?_; refine (spec_l02TableSize.calls y0 b5 _ Wb5.out).mono ?_; rintro e_ w_ ⟨rfl, d_⟩; have b_ := kept_drawn d_; refine ⟨_, rfl, ?_⟩; have Hn := Aside0.mk (blk_below H1.out b_); have HBn := Aside0.mk (below_then HB.out HB.out.size b_); clear b_ d_ H1 HB; have H1 := Hn; have HB := HBn; clear Hn HBn; cases b5))
  all_goals (try (have hh := H.out; rw [HIN.out] at hh; obtain ⟨rfl, rfl⟩ := Prod.mk.inj hh; go_ret2; exact ⟨_, rfl, Kd.R_nil _ _ _ _ _, HB.out⟩))
  have hg_ : snapGood x c p q r = true := by rw [HIN.out]; rfl
  have hh := H.out
  rw [if_pos hg_] at hh
  obtain ⟨rfl, rfl⟩ := Prod.mk.inj hh
  obtain ⟨gx, gc, gp, gq, gr⟩ := snapGood_get hg_
  have hs26 := HSZ.out gc
  clear hh hg_ H HIN HSZ
  rename World => w2
  have E0 := Aside0.mk (show spec_l02Put.f 20 x 1 = some (leB x 1) from l02Put_f x 1 20 (by decide) (by omega) (by omega) (by decide))
  have E1 := Aside0.mk (show spec_l02Put.f 20 ((s.size : Nat) : Int) 1 = some (leB ((s.size : Nat) : Int) 1) from l02Put_f _ 1 20 (by decide) (by omega) (by omega) (by decide))
  have EF := Aside0.mk (show spec_l02Fill.f 2000 (bytesOf s) 26 = some (nameB s) from l02Fill_f (bytesOf s) 26 (26 - s.size) 2000 (by decide) (by rw [bytesOf_length]; omega) (by omega))
  have EZ := Aside0.mk (show spec_l02Put.f 20 0 4 = some (leB 0 4) from l02Put_f 0 4 20 (by decide) (by omega) (by omega) (by decide))
  have E2 := Aside0.mk (show spec_l02Put.f 20 p 8 = some (leB p 8) from l02Put_f p 8 20 (by decide) (by omega) (by omega) (by decide))
  have E3 := Aside0.mk (show spec_l02Put.f 20 q 8 = some (leB q 8) from l02Put_f q 8 20 (by decide) (by omega) (by omega) (by decide))
  have ER := Aside0.mk (show spec_l02RootBytes.f r = some (rootBytes r) from if_pos gr)
  have EJ1 := Aside0.mk (show spec_l02Join.f 20 [magicS, leB x 1, leB ((s.size : Nat) : Int) 1, nameB s, leB 0 4] = some (snapHead x s) from l02Join_f _ 20 (by simp) (by simp) (by rw [sumL_flatten, show ([magicS, leB x 1, leB ((s.size : Nat) : Int) 1, nameB s, leB 0 4] : List (List Int)).flatten = snapHead x s from rfl, snapHead_length hs26]; decide))
  have EJ2 := Aside0.mk (show spec_l02Join.f 20 [snapHead x s, leB p 8, leB q 8, rootBytes r] = some (snapBody x s p q r) from l02Join_f _ 20 (by simp) (by simp) (by rw [sumL_flatten, show ([snapHead x s, leB p 8, leB q 8, rootBytes r] : List (List Int)).flatten = snapBody x s p q r from rfl, snapBody_length hs26 NR.out]; decide))
  have ESE := Aside0.mk (spec_EncodeSnap.sealed (x := x) (p := p) (q := q) hs26 NR.out)
  have HS63 := Aside0.mk (show s.size ≤ 9223372036854775807 by omega)
  clear gx gc gp gq gr hs26
  (try simp only [Act.put, List.setIfInBounds_toArray, List.set_cons_succ, List.set_cons_zero])
  refine wp_region_grow_tailS 14 [LitB w2.heap.size (nums .u8 magicS).toArray 5 8, Row (Kd.int .u8) magicS, Is (.pointer (some ⟨s0, 0, none⟩)), Is (.int .i64 x), Row (Kd.int .u8) (leB x 1), Is (.pointer (some ⟨s0, 1, none⟩)), Is (.string s), Is (.int .i64 ((s.size : Nat) : Int)), Row (Kd.int .u8) (leB ((s.size : Nat) : Int) 1), Is (.pointer (some ⟨s0, 1, none⟩)), Is (.string s), Row (Kd.int .u8) (bytesOf s), Row (Kd.int .u8) (nameB s), Row (Kd.int .u8) (leB 0 4)] (by kernel_rfl) (by kernel_rfl) (by kernel_rfl) (by kernel_rfl) (allstS_cons stS_lit (allstS_cons stS_row (allstS_cons stS_is (allstS_cons stS_is (allstS_cons stS_row (allstS_cons stS_is (allstS_cons stS_is (allstS_cons stS_is (allstS_cons stS_row (allstS_cons stS_is (allstS_cons stS_is (allstS_cons stS_row (allstS_cons stS_row (allstS_cons stS_row allstS_nil)))))))))))))) ?_ (fun w3 hgn => ?_)
  · refine stepsS_cons ?_ ?_
    · refine stepS_of (stepO_run rfl [] [] (by kernel_rfl) (fun a w_ hg hf => ?_))
      refine ⟨.slice (some ⟨w_.heap.size, 0, none⟩) 8 8, w_.alloc (.cells (nums .u8 magicS).toArray 5), ?_, below_alloc (Below.refl _ _) _, ⟨_, _, hg.size, rfl, blk_new w_ _⟩⟩
      unfold execOp
      go_simp
      (try rfl)
    refine stepsS_cons ?_ ?_
    · refine stepS_run rfl [(0, 40)] [] (by kernel_rfl) (fun a w_ hg hf => ?_)
      obtain ⟨⟨⟨v40, e40, p40⟩, _⟩, _⟩ := hf
      replace e40 : a.tmps[40]? = some (v40) := e40
      obtain ⟨g40, fr40, hB40, rfl, hh40⟩ := p40
      refine ⟨.slice (some ⟨g40, 0, none⟩) 8 8, _, ?_, soft_freeze (p := ⟨g40, (nums .u8 magicS).toArray.size, none⟩) hB40 1, stS_row _ _ _ (soft_freeze (p := ⟨g40, (nums .u8 magicS).toArray.size, none⟩) hB40 1) (lit_row (k := .u8) magicS hh40 (by decide))⟩
      have h_ := run_convert_mark (P := Tryd.prog) w_ 22 5 _ fr40 g40 8 8 Tryd.underlying22 Tryd.underlying5 hh40
      unfold execOp
      simp only [PrintLast.eval_of e40, Sem.run_bind, h_, Result.andThen_ok, Sem.run_pure]
      (try rfl)
    refine stepsS_cons ?_ ?_
    · refine stepS_of (stepO_val rfl [] [1] (by kernel_rfl) (.pointer (some ⟨s0, 0, none⟩)) (fun a w_ hg hf => ?_) (fun w_ _ => rfl))
      obtain ⟨_, ⟨o1, _⟩⟩ := hf
      have e1 : a.tmps[1]? = some (.pointer (some ⟨s0, 0, none⟩)) := o1.trans rfl
      unfold execOp
      simp only [PrintLast.eval_of e1, Act.eval]
      go_simp
      (try rfl)
    refine stepsS_cons ?_ ?_
    · refine stepS_of (stepO_val rfl [(2, 42)] [] (by kernel_rfl) (.int .i64 x) (fun a w_ hg hf => ?_) (fun w_ _ => rfl))
      obtain ⟨⟨⟨_, e42, rfl⟩, _⟩, _⟩ := hf
      replace e42 : a.tmps[42]? = some (.pointer (some ⟨s0, 0, none⟩)) := e42
      have c_ : w_.cell? ⟨s0, 0, none⟩ = some (.int .i64 x) := blk_cell (blk_below H1.out hg) 0
      unfold execOp
      simp only [PrintLast.eval_of e42, Act.eval]
      go_simp
      (try rfl)
    refine stepsS_cons ?_ ?_
    · refine stepS_of (stepO_call rfl [(3, 43)] [] (by kernel_rfl) Tryd.func137 (by kernel_rfl) rfl rfl (fun a w_ hg hf => ?_))
      obtain ⟨⟨⟨_, e43, rfl⟩, _⟩, _⟩ := hf
      replace e43 : a.tmps[43]? = some (.int .i64 x) := e43
      refine ⟨#[.int .i64 x, .int .i64 1], (by simp only [List.map_toArray, List.map_cons, List.map_nil, PrintLast.eval_of e43]; first | done | rfl), (spec_l02Put.calls 20 x 1 (leB x 1) w_ E0.out).mono ?_⟩
      rintro e_ w2_ ⟨v_, rfl, R_, b_⟩
      exact ⟨_, rfl, b_, own_row R_⟩
    refine stepsS_cons ?_ ?_
    · refine stepS_of (stepO_val rfl [] [1] (by kernel_rfl) (.pointer (some ⟨s0, 1, none⟩)) (fun a w_ hg hf => ?_) (fun w_ _ => rfl))
      obtain ⟨_, ⟨o1, _⟩⟩ := hf
      have e1 : a.tmps[1]? = some (.pointer (some ⟨s0, 0, none⟩)) := o1.trans rfl
      unfold execOp
      simp only [PrintLast.eval_of e1, Act.eval]
      go_simp
      (try rfl)
    refine stepsS_cons ?_ ?_
    · refine stepS_of (stepO_val rfl [(5, 45)] [] (by kernel_rfl) (.string s) (fun a w_ hg hf => ?_) (fun w_ _ => rfl))
      obtain ⟨⟨⟨_, e45, rfl⟩, _⟩, _⟩ := hf
      replace e45 : a.tmps[45]? = some (.pointer (some ⟨s0, 1, none⟩)) := e45
      have c_ : w_.cell? ⟨s0, 1, none⟩ = some (.string s) := blk_cell (blk_below H1.out hg) 1
      unfold execOp
      simp only [PrintLast.eval_of e45, Act.eval]
      go_simp
      (try rfl)
    refine stepsS_cons ?_ ?_
    · refine stepS_of (stepO_val rfl [(6, 46)] [] (by kernel_rfl) (.int .i64 ((s.size : Nat) : Int)) (fun a w_ hg hf => ?_) (fun w_ _ => rfl))
      obtain ⟨⟨⟨_, e46, rfl⟩, _⟩, _⟩ := hf
      replace e46 : a.tmps[46]? = some (.string s) := e46
      unfold execOp
      simp only [PrintLast.eval_of e46, Act.eval]
      go_simp
      (try rfl)
    refine stepsS_cons ?_ ?_
    · refine stepS_of (stepO_call rfl [(7, 47)] [] (by kernel_rfl) Tryd.func137 (by kernel_rfl) rfl rfl (fun a w_ hg hf => ?_))
      obtain ⟨⟨⟨_, e47, rfl⟩, _⟩, _⟩ := hf
      replace e47 : a.tmps[47]? = some (.int .i64 ((s.size : Nat) : Int)) := e47
      refine ⟨#[.int .i64 ((s.size : Nat) : Int), .int .i64 1], (by simp only [List.map_toArray, List.map_cons, List.map_nil, PrintLast.eval_of e47]; first | done | rfl), (spec_l02Put.calls 20 ((s.size : Nat) : Int) 1 (leB ((s.size : Nat) : Int) 1) w_ E1.out).mono ?_⟩
      rintro e_ w2_ ⟨v_, rfl, R_, b_⟩
      exact ⟨_, rfl, b_, own_row R_⟩
    refine stepsS_cons ?_ ?_
    · refine stepS_of (stepO_val rfl [] [1] (by kernel_rfl) (.pointer (some ⟨s0, 1, none⟩)) (fun a w_ hg hf => ?_) (fun w_ _ => rfl))
      obtain ⟨_, ⟨o1, _⟩⟩ := hf
      have e1 : a.tmps[1]? = some (.pointer (some ⟨s0, 0, none⟩)) := o1.trans rfl
      unfold execOp
      simp only [PrintLast.eval_of e1, Act.eval]
      go_simp
      (try rfl)
    refine stepsS_cons ?_ ?_
    · refine stepS_of (stepO_val rfl [(9, 49)] [] (by kernel_rfl) (.string s) (fun a w_ hg hf => ?_) (fun w_ _ => rfl))
      obtain ⟨⟨⟨_, e49, rfl⟩, _⟩, _⟩ := hf
      replace e49 : a.tmps[49]? = some (.pointer (some ⟨s0, 1, none⟩)) := e49
      have c_ : w_.cell? ⟨s0, 1, none⟩ = some (.string s) := blk_cell (blk_below H1.out hg) 1
      unfold execOp
      simp only [PrintLast.eval_of e49, Act.eval]
      go_simp
      (try rfl)
    refine stepsS_cons ?_ ?_
    · refine stepS_of (stepO_bytes rfl [(10, 50)] [] (by kernel_rfl) rfl Tryd.underlying9 Tryd.underlying22 Tryd.underlying5 s HS63.out (fun a w_ hg hf => ?_) (fun _ _ h => h))
      obtain ⟨⟨⟨_, e50, rfl⟩, _⟩, _⟩ := hf
      replace e50 : a.tmps[50]? = some (.string s) := e50
      exact PrintLast.eval_of e50
    refine stepsS_cons ?_ ?_
    · refine stepS_of (stepO_call rfl [(11, 51)] [] (by kernel_rfl) Tryd.func138 (by kernel_rfl) rfl rfl (fun a w_ hg hf => ?_))
      obtain ⟨⟨⟨v51, e51, p51⟩, _⟩, _⟩ := hf
      replace e51 : a.tmps[51]? = some (v51) := e51
      obtain ⟨A51, c51, rfl, h51, C51⟩ := p51
      refine ⟨#[.slice A51 (bytesOf s).length c51, .int .i64 26], (by simp only [List.map_toArray, List.map_cons, List.map_nil, PrintLast.eval_of e51]; first | done | rfl), (spec_l02Fill.calls 2000 A51 c51 _ 26 (nameB s) w_ C51 h51 EF.out).mono ?_⟩
      rintro e_ w2_ ⟨v_, rfl, R_, b_⟩
      exact ⟨_, rfl, b_, own_row R_⟩
    refine stepsS_cons ?_ ?_
    · refine stepS_of (stepO_call rfl [] [] (by kernel_rfl) Tryd.func137 (by kernel_rfl) rfl rfl (fun a w_ hg hf => ?_))
      obtain ⟨_, _⟩ := hf
      refine ⟨#[.int .i64 0, .int .i64 4], (by simp only [List.map_toArray, List.map_cons, List.map_nil]; first | done | rfl), (spec_l02Put.calls 20 0 4 (leB 0 4) w_ EZ.out).mono ?_⟩
      rintro e_ w2_ ⟨v_, rfl, R_, b_⟩
      exact ⟨_, rfl, b_, own_row R_⟩
    exact stepsS_nil
  · skip
    refine ends_cons (fun v0_ p0_ => ?_)
    replace p0_ := Aside0.mk (show LitB w2.heap.size (nums .u8 magicS).toArray 5 8 v0_ w3 from p0_)
    refine ends_cons (fun v1_ p1_ => ?_)
    replace p1_ := Aside0.mk (show Row (Kd.int .u8) magicS v1_ w3 from p1_)
    refine ends_cons (fun v2_ p2_ => ?_)
    obtain rfl : v2_ = _ := p2_
    refine ends_cons (fun v3_ p3_ => ?_)
    obtain rfl : v3_ = _ := p3_
    refine ends_cons (fun v4_ p4_ => ?_)
    replace p4_ := Aside0.mk (show Row (Kd.int .u8) (leB x 1) v4_ w3 from p4_)
    refine ends_cons (fun v5_ p5_ => ?_)
    obtain rfl : v5_ = _ := p5_
    refine ends_cons (fun v6_ p6_ => ?_)
    obtain rfl : v6_ = _ := p6_
    refine ends_cons (fun v7_ p7_ => ?_)
    obtain rfl : v7_ = _ := p7_
    refine ends_cons (fun v8_ p8_ => ?_)
    replace p8_ := Aside0.mk (show Row (Kd.int .u8) (leB ((s.size : Nat) : Int) 1) v8_ w3 from p8_)
    refine ends_cons (fun v9_ p9_ => ?_)
    obtain rfl : v9_ = _ := p9_
    refine ends_cons (fun v10_ p10_ => ?_)
    obtain rfl : v10_ = _ := p10_
    refine ends_cons (fun v11_ p11_ => ?_)
    replace p11_ := Aside0.mk (show Row (Kd.int .u8) (bytesOf s) v11_ w3 from p11_)
    refine ends_cons (fun v12_ p12_ => ?_)
    replace p12_ := Aside0.mk (show Row (Kd.int .u8) (nameB s) v12_ w3 from p12_)
    refine ends_cons (fun v13_ p13_ => ?_)
    replace p13_ := Aside0.mk (show Row (Kd.int .u8) (leB 0 4) v13_ w3 from p13_)
    refine ends_nil ?_
    simp only [Act.put, List.setIfInBounds_toArray, List.set_cons_succ, List.set_cons_zero]
    have HB3 := Aside0.mk (below_then HB.out HB.out.size hgn)
    have H_3 := Aside0.mk (blk_below H1.out hgn)
    clear hgn HB H1 p0_
    obtain ⟨A1, c1, rfl, h1, C1⟩ := p1_.out
    obtain ⟨A4, c4, rfl, h4, C4⟩ := p4_.out
    obtain ⟨A8, c8, rfl, h8, C8⟩ := p8_.out
    obtain ⟨A12, c12, rfl, h12, C12⟩ := p12_.out
    obtain ⟨A13, c13, rfl, h13, C13⟩ := p13_.out
    clear p1_ p4_ p8_ p11_ p12_ p13_
    simp only [List.drop_succ_cons, List.drop_zero]
    go_wp2_with (first | ((with_reducible refine gate_dst (N := 54) rfl ?_); refine wpList_rows rfl (N := 54) rfl (Kd.int .u8) 5 22 [(.slice A1 magicS.length c1), (.slice A4 (leB x 1).length c4), (.slice A8 (leB ((s.size : Nat) : Int) 1).length c8), (.slice A12 (nameB s).length c12), (.slice A13 (leB 0 4).length c13)] [magicS, (leB x 1), (leB ((s.size : Nat) : Int) 1), (nameB s), (leB 0 4)] (by simp) ?hr (rows_cons ⟨_, _, rfl, h1, C1⟩ (rows_cons ⟨_, _, rfl, h4, C4⟩ (rows_cons ⟨_, _, rfl, h8, C8⟩ (rows_cons ⟨_, _, rfl, h12, C12⟩ (rows_cons ⟨_, _, rfl, h13, C13⟩ (rows_nil)))))) ?_; (case hr => first | (go_simp; done) | (go_simp; rfl)); intro A54 c54 w4 h54 C_ b_; have C54_4 := Aside0.mk C_; clear C_; have HB4 := Aside0.mk (below_then HB3.out HB3.out.size b_); have H_4 := Aside0.mk (blk_below H_3.out b_); clear b_ HB3 H_3) | ((with_reducible refine gate_dst (N := 55) rfl ?_); refine goesL_ (some 55) rfl rfl Tryd.func136 (by kernel_rfl) rfl #[.slice A54 [magicS, leB x 1, leB ((s.size : Nat) : Int) 1, nameB s, leB 0 4].length c54] rfl (by (try simp only [List.map_toArray, List.map_cons, List.map_nil]); first | done | rfl) ?_; refine (spec_l02Join.calls 20 A54 c54 _ (snapHead x s) w4 C54_4.out h54 EJ1.out).mono ?_; rintro e_ w5 ⟨v_, rfl, R_, b_⟩; obtain ⟨A55, c55, rfl⟩ := Kd.R_slice R_; refine ⟨_, rfl, ?_⟩; have O55_5 := Aside0.mk (Kd.R_lower R_ HB4.out.size); clear R_; have HB5 := Aside0.mk (below_then HB4.out HB4.out.size b_); have H_5 := Aside0.mk (blk_below H_4.out b_); have C54_5 := Aside0.mk (Kd.C_below C54_4.out b_); clear b_ HB4 H_4 C54_4))
    (try simp only [Act.put, List.setIfInBounds_toArray, List.set_cons_succ, List.set_cons_zero])
    refine wp_region_grow_tailS 10 [Is (.slice A55 (snapHead x s).length c55), Is (.pointer (some ⟨s0, 2, none⟩)), Is (.int .i64 p), Row (Kd.int .u8) (leB p 8), Is (.pointer (some ⟨s0, 3, none⟩)), Is (.int .i64 q), Row (Kd.int .u8) (leB q 8), Is (.pointer (some ⟨s0, 4, none⟩)), Is (.agg (nums .i64 r).toArray), Row (Kd.int .u8) (rootBytes r)] (by kernel_rfl) (by kernel_rfl) (by kernel_rfl) (by kernel_rfl) (allstS_cons stS_is (allstS_cons stS_is (allstS_cons stS_is (allstS_cons stS_row (allstS_cons stS_is (allstS_cons stS_is (allstS_cons stS_row (allstS_cons stS_is (allstS_cons stS_is (allstS_cons stS_row allstS_nil)))))))))) ?_ (fun w6 hgn => ?_)
    · refine stepsS_cons ?_ ?_
      · refine stepS_of (stepO_val rfl [] [4] (by kernel_rfl) (.slice A55 (snapHead x s).length c55) (fun a w_ hg hf => ?_) (fun w_ _ => rfl))
        obtain ⟨_, ⟨o4, _⟩⟩ := hf
        have e4 : a.tmps[4]? = some (.slice A55 (snapHead x s).length c55) := o4.trans rfl
        unfold execOp
        simp only [PrintLast.eval_of e4]
        rfl
      refine stepsS_cons ?_ ?_
      · refine stepS_of (stepO_val rfl [] [1] (by kernel_rfl) (.pointer (some ⟨s0, 2, none⟩)) (fun a w_ hg hf => ?_) (fun w_ _ => rfl))
        obtain ⟨_, ⟨o1, _⟩⟩ := hf
        have e1 : a.tmps[1]? = some (.pointer (some ⟨s0, 0, none⟩)) := o1.trans rfl
        unfold execOp
        simp only [PrintLast.eval_of e1, Act.eval]
        go_simp
        (try rfl)
      refine stepsS_cons ?_ ?_
      · refine stepS_of (stepO_val rfl [(1, 57)] [] (by kernel_rfl) (.int .i64 p) (fun a w_ hg hf => ?_) (fun w_ _ => rfl))
        obtain ⟨⟨⟨_, e57, rfl⟩, _⟩, _⟩ := hf
        replace e57 : a.tmps[57]? = some (.pointer (some ⟨s0, 2, none⟩)) := e57
        have c_ : w_.cell? ⟨s0, 2, none⟩ = some (.int .i64 p) := blk_cell (blk_below H_5.out hg) 2
        unfold execOp
        simp only [PrintLast.eval_of e57, Act.eval]
        go_simp
        (try rfl)
      refine stepsS_cons ?_ ?_
      · refine stepS_of (stepO_call rfl [(2, 58)] [] (by kernel_rfl) Tryd.func137 (by kernel_rfl) rfl rfl (fun a w_ hg hf => ?_))
        obtain ⟨⟨⟨_, e58, rfl⟩, _⟩, _⟩ := hf
        replace e58 : a.tmps[58]? = some (.int .i64 p) := e58
        refine ⟨#[.int .i64 p, .int .i64 8], (by simp only [List.map_toArray, List.map_cons, List.map_nil, PrintLast.eval_of e58]; first | done | rfl), (spec_l02Put.calls 20 p 8 (leB p 8) w_ E2.out).mono ?_⟩
        rintro e_ w2_ ⟨v_, rfl, R_, b_⟩
        exact ⟨_, rfl, b_, own_row R_⟩
      refine stepsS_cons ?_ ?_
      · refine stepS_of (stepO_val rfl [] [1] (by kernel_rfl) (.pointer (some ⟨s0, 3, none⟩)) (fun a w_ hg hf => ?_) (fun w_ _ => rfl))
        obtain ⟨_, ⟨o1, _⟩⟩ := hf
        have e1 : a.tmps[1]? = some (.pointer (some ⟨s0, 0, none⟩)) := o1.trans rfl
        unfold execOp
        simp only [PrintLast.eval_of e1, Act.eval]
        go_simp
        (try rfl)
      refine stepsS_cons ?_ ?_
      · refine stepS_of (stepO_val rfl [(4, 60)] [] (by kernel_rfl) (.int .i64 q) (fun a w_ hg hf => ?_) (fun w_ _ => rfl))
        obtain ⟨⟨⟨_, e60, rfl⟩, _⟩, _⟩ := hf
        replace e60 : a.tmps[60]? = some (.pointer (some ⟨s0, 3, none⟩)) := e60
        have c_ : w_.cell? ⟨s0, 3, none⟩ = some (.int .i64 q) := blk_cell (blk_below H_5.out hg) 3
        unfold execOp
        simp only [PrintLast.eval_of e60, Act.eval]
        go_simp
        (try rfl)
      refine stepsS_cons ?_ ?_
      · refine stepS_of (stepO_call rfl [(5, 61)] [] (by kernel_rfl) Tryd.func137 (by kernel_rfl) rfl rfl (fun a w_ hg hf => ?_))
        obtain ⟨⟨⟨_, e61, rfl⟩, _⟩, _⟩ := hf
        replace e61 : a.tmps[61]? = some (.int .i64 q) := e61
        refine ⟨#[.int .i64 q, .int .i64 8], (by simp only [List.map_toArray, List.map_cons, List.map_nil, PrintLast.eval_of e61]; first | done | rfl), (spec_l02Put.calls 20 q 8 (leB q 8) w_ E3.out).mono ?_⟩
        rintro e_ w2_ ⟨v_, rfl, R_, b_⟩
        exact ⟨_, rfl, b_, own_row R_⟩
      refine stepsS_cons ?_ ?_
      · refine stepS_of (stepO_val rfl [] [1] (by kernel_rfl) (.pointer (some ⟨s0, 4, none⟩)) (fun a w_ hg hf => ?_) (fun w_ _ => rfl))
        obtain ⟨_, ⟨o1, _⟩⟩ := hf
        have e1 : a.tmps[1]? = some (.pointer (some ⟨s0, 0, none⟩)) := o1.trans rfl
        unfold execOp
        simp only [PrintLast.eval_of e1, Act.eval]
        go_simp
        (try rfl)
      refine stepsS_cons ?_ ?_
      · refine stepS_of (stepO_val rfl [(7, 63)] [] (by kernel_rfl) (.agg (nums .i64 r).toArray) (fun a w_ hg hf => ?_) (fun w_ _ => rfl))
        obtain ⟨⟨⟨_, e63, rfl⟩, _⟩, _⟩ := hf
        replace e63 : a.tmps[63]? = some (.pointer (some ⟨s0, 4, none⟩)) := e63
        have c_ : (loadVar 124 ⟨s0, 4, none⟩).run Tryd.prog w_ = .ok (.agg (nums .i64 r).toArray) w_ := by have h_ := run_load_part (P := Tryd.prog) w_ s0 4 15 131 124 _ (0, 0) _ (blk_below H_5.out hg) Tryd.underlying124 rfl (by kernel_rfl) (by rw [snapC_size NR.out]; decide); rw [snapC_root NR.out, Array.toArray_toList] at h_; exact h_
        unfold execOp
        simp only [PrintLast.eval_of e63, Instr.loadAt, Instr.sureAddr, Sem.run_bind, Sem.run_pure, Result.andThen_ok, c_]
      refine stepsS_cons ?_ ?_
      · refine stepS_of (stepO_call rfl [(8, 64)] [] (by kernel_rfl) Tryd.func140 (by kernel_rfl) rfl rfl (fun a w_ hg hf => ?_))
        obtain ⟨⟨⟨_, e64, rfl⟩, _⟩, _⟩ := hf
        replace e64 : a.tmps[64]? = some (.agg (nums .i64 r).toArray) := e64
        refine ⟨#[.agg (nums .i64 r).toArray], (by simp only [List.map_toArray, List.map_cons, List.map_nil, PrintLast.eval_of e64]; first | done | rfl), (spec_l02RootBytes.calls r NR.out (rootBytes r) w_ ER.out).mono ?_⟩
        rintro e_ w2_ ⟨v_, rfl, R_, b_⟩
        exact ⟨_, rfl, b_, own_row R_⟩
      exact stepsS_nil
    · skip
      refine ends_cons (fun v0_ p0_ => ?_)
      obtain rfl : v0_ = _ := p0_
      refine ends_cons (fun v1_ p1_ => ?_)
      obtain rfl : v1_ = _ := p1_
      refine ends_cons (fun v2_ p2_ => ?_)
      obtain rfl : v2_ = _ := p2_
      refine ends_cons (fun v3_ p3_ => ?_)
      replace p3_ := Aside0.mk (show Row (Kd.int .u8) (leB p 8) v3_ w6 from p3_)
      refine ends_cons (fun v4_ p4_ => ?_)
      obtain rfl : v4_ = _ := p4_
      refine ends_cons (fun v5_ p5_ => ?_)
      obtain rfl : v5_ = _ := p5_
      refine ends_cons (fun v6_ p6_ => ?_)
      replace p6_ := Aside0.mk (show Row (Kd.int .u8) (leB q 8) v6_ w6 from p6_)
      refine ends_cons (fun v7_ p7_ => ?_)
      obtain rfl : v7_ = _ := p7_
      refine ends_cons (fun v8_ p8_ => ?_)
      obtain rfl : v8_ = _ := p8_
      refine ends_cons (fun v9_ p9_ => ?_)
      replace p9_ := Aside0.mk (show Row (Kd.int .u8) (rootBytes r) v9_ w6 from p9_)
      refine ends_nil ?_
      simp only [Act.put, List.setIfInBounds_toArray, List.set_cons_succ, List.set_cons_zero]
      have HB6 := Aside0.mk (below_then HB5.out HB5.out.size hgn)
      have H_6 := Aside0.mk (blk_below H_5.out hgn)
      have O55_6 := Aside0.mk (Kd.R_below O55_5.out hgn)
      clear hgn HB5 H_5 O55_5
      obtain ⟨A3, c3, rfl, h3, C3⟩ := p3_.out
      obtain ⟨A6, c6, rfl, h6, C6⟩ := p6_.out
      obtain ⟨A9, c9, rfl, h9, C9⟩ := p9_.out
      clear p3_ p6_ p9_
      simp only [List.drop_succ_cons, List.drop_zero]
      go_wp2_with (first | ((with_reducible refine gate_dst (N := 66) rfl ?_); refine wpList_rows rfl (N := 66) rfl (Kd.int .u8) 5 22 [(.slice A55 (snapHead x s).length c55), (.slice A3 (leB p 8).length c3), (.slice A6 (leB q 8).length c6), (.slice A9 (rootBytes r).length c9)] [(snapHead x s), (leB p 8), (leB q 8), (rootBytes r)] (by simp) ?hr (rows_cons ⟨_, _, rfl, (Kd.R_reads' O55_6.out).2.1, (Kd.R_reads' O55_6.out).2.2⟩ (rows_cons ⟨_, _, rfl, h3, C3⟩ (rows_cons ⟨_, _, rfl, h6, C6⟩ (rows_cons ⟨_, _, rfl, h9, C9⟩ (rows_nil))))) ?_; (case hr => first | (go_simp; done) | (go_simp; rfl)); intro A66 c66 w7 h66 C_ b_; have C66_7 := Aside0.mk C_; clear C_; have HB7 := Aside0.mk (below_then HB6.out HB6.out.size b_); have H_7 := Aside0.mk (blk_below H_6.out b_); have O55_7 := Aside0.mk (Kd.R_below O55_6.out b_); clear b_ HB6 H_6 O55_6) | ((with_reducible refine gate_dst (N := 67) rfl ?_); refine goesL_ (some 67) rfl rfl Tryd.func136 (by kernel_rfl) rfl #[.slice A66 [snapHead x s, leB p 8, leB q 8, rootBytes r].length c66] rfl (by (try simp only [List.map_toArray, List.map_cons, List.map_nil]); first | done | rfl) ?_; refine (spec_l02Join.calls 20 A66 c66 _ (snapBody x s p q r) w7 C66_7.out h66 EJ2.out).mono ?_; rintro e_ w8 ⟨v_, rfl, R_, b_⟩; obtain ⟨A67, c67, rfl⟩ := Kd.R_slice R_; refine ⟨_, rfl, ?_⟩; have O67_8 := Aside0.mk (Kd.R_lower R_ HB7.out.size); clear R_; have HB8 := Aside0.mk (below_then HB7.out HB7.out.size b_); have H_8 := Aside0.mk (blk_below H_7.out b_); have O55_8 := Aside0.mk (Kd.R_below O55_7.out b_); have C66_8 := Aside0.mk (Kd.C_below C66_7.out b_); clear b_ HB7 H_7 O55_7 C66_7) | ((with_reducible refine gate_dst (N := 68) rfl ?_); refine goesL_ (some 68) rfl rfl Tryd.func139 (by kernel_rfl) rfl #[.slice A67 (snapBody x s p q r).length c67] rfl (by (try simp only [List.map_toArray, List.map_cons, List.map_nil]); first | done | rfl) ?_; refine (spec_l02Sealed.calls 2000 A67 c67 _ (snapBytes x s p q r) w8 (Kd.R_reads' O67_8.out).2.2 (Kd.R_reads' O67_8.out).2.1 ESE.out).mono ?_; rintro e_ w9 ⟨v_, rfl, R_, b_⟩; obtain ⟨A68, c68, rfl⟩ := Kd.R_slice R_; refine ⟨_, rfl, ?_⟩; have O68_9 := Aside0.mk (Kd.R_lower R_ HB8.out.size); clear R_; have HB9 := Aside0.mk (below_then HB8.out HB8.out.size b_); have H_9 := Aside0.mk (blk_below H_8.out b_); have O55_9 := Aside0.mk (Kd.R_below O55_8.out b_); have C66_9 := Aside0.mk (Kd.C_below C66_8.out b_); have O67_9 := Aside0.mk (Kd.R_below O67_8.out b_); clear b_ HB8 H_8 O55_8 C66_8 O67_8))
      go_ret2
      exact ⟨_, rfl, O68_9.out, HB9.out⟩
end Go.Proofs.YtknlpjoidjgciaaDoor.PFnExactSnapshots
