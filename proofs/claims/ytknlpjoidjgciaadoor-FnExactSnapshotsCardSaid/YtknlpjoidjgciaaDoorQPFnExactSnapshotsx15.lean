/- PFnExactSnapshotsx15: functions of the law, walked; written by a program of this session. No condition. -/
import Derived.Test.YtknlpjoidjgciaaDoorQPFnExactSnapshotsx0
import Derived.Test.YtknlpjoidjgciaaDoorQPFnExactSnapshotsx10
import Derived.Test.YtknlpjoidjgciaaDoorQPFnExactSnapshotsx11
import Derived.Test.YtknlpjoidjgciaaDoorQPFnExactSnapshotsx13
import Derived.Test.YtknlpjoidjgciaaDoorQPFnExactSnapshotsx14
namespace Go.Proofs.YtknlpjoidjgciaaDoor.PFnExactSnapshots
open Go.RowKit Go.Proofs.YtknlpjoidjgciaaDoorW.PrintWords Go.Proofs.YtknlpjoidjgciaaDoorW.PrintLast Go.Proofs.YtknlpjoidjgciaaDoorW.PrintMore
attribute [local go_sem] max2_int min2_int max_two min_two max_three min_three max_four min_four
set_option linter.unusedVariables false
set_option linter.unusedSimpArgs false
open Go.Proofs.YtknlpjoidjgciaaDoorW Go.Proofs.YtknlpjoidjgciaaDoorW.PrintHand Go.Proofs.YtknlpjoidjgciaaDoorW.PrintHx
open Go.Proofs.YtknlpjoidjgciaaDoorW.PrintLe Go.Proofs.YtknlpjoidjgciaaDoorW.PrintGrow Go.Proofs.YtknlpjoidjgciaaDoorW.PrintDec Go.Proofs.YtknlpjoidjgciaaDoorW.PrintIno Go.Proofs.YtknlpjoidjgciaaDoorW.PrintTab2 Go.Proofs.YtknlpjoidjgciaaDoorW.PrintTab3 Go.Proofs.YtknlpjoidjgciaaDoorW.PrintFsi Go.Proofs.YtknlpjoidjgciaaDoorW.PrintFsb Go.Proofs.YtknlpjoidjgciaaDoorW.PrintFsd Go.Proofs.YtknlpjoidjgciaaDoorW.PrintCrc Go.Proofs.YtknlpjoidjgciaaDoorW.PrintSnp
def impl_Snap_right.f (x c p q : Int) (r : List Int) : Option Bool := some (snapGood x c p q r)
set_option maxHeartbeats 8000000 in
set_option maxRecDepth 100000 in
theorem impl_Snap_right.calls (x : Int) (s : ByteArray) (p q : Int) (r : List Int) (nr : r.length = 15) (k : Nat) (c : Int) (hc : impl_CheckName.f k s = some c) (b : Bool) (w : World) (h : impl_Snap_right.f x c p q r = some b) :
    Calls Tryd.prog 171 #[.agg (snapC x s p q r).toArray] w fun e w' => e = .returned (.bool b) ∧ Below w.heap.size w w' := by
  have H := Aside0.mk (Option.some.inj h)
  clear h
  have NR := Aside0.mk nr
  have WC := Aside0.mk hc
  clear nr hc
  obtain ⟨y0, hy0⟩ : ∃ y, y = r.getD 0 0 := ⟨_, rfl⟩
  obtain ⟨b0, hb0⟩ : ∃ b, b = rng x 1 31 := ⟨_, rfl⟩
  have Wb0 := Aside0.mk (show impl_within.f x 1 31 = some b0 by rw [hb0]; exact within_i _ _ _)
  obtain ⟨b2, hb2⟩ : ∃ b, b = rng p 1 1099511627776 := ⟨_, rfl⟩
  have Wb2 := Aside0.mk (show impl_within.f p 1 1099511627776 = some b2 by rw [hb2]; exact within_i _ _ _)
  obtain ⟨b3, hb3⟩ : ∃ b, b = rng q 1 1099511627776 := ⟨_, rfl⟩
  have Wb3 := Aside0.mk (show impl_within.f q 1 1099511627776 = some b3 by rw [hb3]; exact within_i _ _ _)
  obtain ⟨b4, hb4⟩ : ∃ b, b = rootGood r := ⟨_, rfl⟩
  have Wb4 := Aside0.mk (show impl_Root_right.f r = some b4 by rw [hb4]; rfl)
  obtain ⟨b5, hb5⟩ : ∃ b, b = sizeI y0 := ⟨_, rfl⟩
  have Wb5 := Aside0.mk (show impl_tableSize.f y0 = some b5 by rw [hb5]; exact size_i _)
  obtain ⟨b1, hb1⟩ : ∃ b, b = decide (c = 0) := ⟨_, rfl⟩
  have HIN := Aside0.mk (show snapGood x c p q r = (b0 && (b1 && (b2 && (b3 && (b4 && b5))))) by rw [hb0, hb1, hb2, hb3, hb4, hb5, hy0]; rfl)
  have HY0 := Aside0.mk hy0
  have HB1_ := Aside0.mk (show (c == 0) = b1 by rw [hb1]; rfl)
  clear hb0 hb1 hb2 hb3 hb4 hb5 hy0
  have HB0 : Aside0 (Below w.heap.size w w) := ⟨Below.refl _ _⟩
  obtain ⟨s0, Sz0⟩ : ∃ s0, Aside0 (w.heap.size = s0) := ⟨_, ⟨rfl⟩⟩
  have hw0 : w.heap.size ≤ s0 := Nat.le_of_eq Sz0.out
  have hw1 : s0 ≤ w.heap.size := Nat.le_of_eq Sz0.out.symm
  go_enter Tryd.func171, Tryd.ntmps171
  go_wp2_with (first | ((with_reducible refine gate_dst (N := 1) rfl ?_); refine hx_box rfl 1 rfl 131 (.tmp 0) rfl Sz0 (.agg (snapC x s p q r).toArray) (snapC x s p q r).toArray rfl (by simp [Value.cells]) ?_; intro w1 s1 L1 Sz1 b1_ g_; have H1 := Aside0.mk g_; have HB := Aside0.mk (below_then HB0.out HB0.out.size b1_); clear g_ HB0 b1_) | ((with_reducible refine gate_dst (N := 4) rfl ?_); refine wpList_ld1 rfl 3 (.tmp 3) rfl s0 0 rfl (.int .i64 x) Tryd.underlying3 rfl H1.out rfl ?_) | ((with_reducible refine gate_dst (N := 5) rfl ?_); refine goesL_ (some 5) rfl rfl Tryd.func87 (by kernel_rfl) rfl #[.int .i64 x, .int .i64 1, .int .i64 31] rfl (by (try simp only [List.map_toArray, List.map_cons, List.map_nil]); first | done | rfl) ?_; refine (impl_within.calls x 1 31 b0 _ Wb0.out).mono ?_; rintro e_ w_ ⟨rfl, d_⟩; have b_ := kept_drawn d_; refine ⟨_, rfl, ?_⟩; have Hn := Aside0.mk (blk_below H1.out b_); have HBn := Aside0.mk (below_then HB.out HB.out.size b_); clear b_ d_ H1 HB; have H1 := Hn; have HB := HBn; clear Hn HBn; cases b0) | ((with_reducible refine gate_dst (N := 8) rfl ?_); refine Go.Proofs.YtknlpjoidjgciaaDoorW.PrintTab2.ungd (by rfl) ?_; refine wpList_ld1 rfl 9 (.tmp 7) rfl s0 1 rfl (.string s) Tryd.underlying9 rfl H1.out rfl ?_) | ((with_reducible refine gate_dst (N := 9) rfl ?_); refine Go.Proofs.YtknlpjoidjgciaaDoorW.PrintTab2.ungd (by rfl) ?_; refine goesL_ (some 9) rfl rfl Tryd.func188 (by kernel_rfl) rfl #[.string s] rfl (by (try simp only [List.map_toArray, List.map_cons, List.map_nil]); first | done | rfl) ?_; refine (impl_CheckName.calls k s c _ WC.out).mono ?_; rintro e_ w_ ⟨rfl, d_⟩; have b_ := d_; refine ⟨_, rfl, ?_⟩; have Hn := Aside0.mk (blk_below H1.out b_); have HBn := Aside0.mk (below_then HB.out HB.out.size b_); clear b_ d_ H1 HB; have H1 := Hn; have HB := HBn; clear Hn HBn) | ((with_reducible refine gate_dst (N := 10) rfl ?_); refine Go.Proofs.YtknlpjoidjgciaaDoorW.PrintTab2.ungd (by rfl) ?_; refine hx_eqi rfl 3 3 (.tmp 9) _ rfl Tryd.underlying3 c 0 rfl rfl b1 HB1_ ?_; cases b1) | ((with_reducible refine gate_dst (N := 14) rfl ?_); refine Go.Proofs.YtknlpjoidjgciaaDoorW.PrintTab2.ungd (by rfl) ?_; refine wpList_ld1 rfl 3 (.tmp 13) rfl s0 2 rfl (.int .i64 p) Tryd.underlying3 rfl H1.out rfl ?_) | ((with_reducible refine gate_dst (N := 15) rfl ?_); refine Go.Proofs.YtknlpjoidjgciaaDoorW.PrintTab2.ungd (by rfl) ?_; refine goesL_ (some 15) rfl rfl Tryd.func87 (by kernel_rfl) rfl #[.int .i64 p, .int .i64 1, .int .i64 1099511627776] rfl (by (try simp only [List.map_toArray, List.map_cons, List.map_nil]); first | done | rfl) ?_; refine (impl_within.calls p 1 1099511627776 b2 _ Wb2.out).mono ?_; rintro e_ w_ ⟨rfl, d_⟩; have b_ := kept_drawn d_; refine ⟨_, rfl, ?_⟩; have Hn := Aside0.mk (blk_below H1.out b_); have HBn := Aside0.mk (below_then HB.out HB.out.size b_); clear b_ d_ H1 HB; have H1 := Hn; have HB := HBn; clear Hn HBn; cases b2) | ((with_reducible refine gate_dst (N := 19) rfl ?_); refine Go.Proofs.YtknlpjoidjgciaaDoorW.PrintTab2.ungd (by rfl) ?_; refine wpList_ld1 rfl 3 (.tmp 18) rfl s0 3 rfl (.int .i64 q) Tryd.underlying3 rfl H1.out rfl ?_) | ((with_reducible refine gate_dst (N := 20) rfl ?_); refine Go.Proofs.YtknlpjoidjgciaaDoorW.PrintTab2.ungd (by rfl) ?_; refine goesL_ (some 20) rfl rfl Tryd.func87 (by kernel_rfl) rfl #[.int .i64 q, .int .i64 1, .int .i64 1099511627776] rfl (by (try simp only [List.map_toArray, List.map_cons, List.map_nil]); first | done | rfl) ?_; refine (impl_within.calls q 1 1099511627776 b3 _ Wb3.out).mono ?_; rintro e_ w_ ⟨rfl, d_⟩; have b_ := kept_drawn d_; refine ⟨_, rfl, ?_⟩; have Hn := Aside0.mk (blk_below H1.out b_); have HBn := Aside0.mk (below_then HB.out HB.out.size b_); clear b_ d_ H1 HB; have H1 := Hn; have HB := HBn; clear Hn HBn; cases b3) | ((with_reducible refine gate_dst (N := 24) rfl ?_); refine Go.Proofs.YtknlpjoidjgciaaDoorW.PrintTab2.ungd (by rfl) ?_; refine wpList_ld rfl 124 (.tmp 23) rfl s0 4 15 rfl (nums .i64 r).toArray Tryd.underlying124 rfl (by kernel_rfl) H1.out (by rw [snapC_size NR.out]; decide) (snapC_root NR.out) ?_) | ((with_reducible refine gate_dst (N := 25) rfl ?_); refine Go.Proofs.YtknlpjoidjgciaaDoorW.PrintTab2.ungd (by rfl) ?_; refine goesL_ (some 25) rfl rfl Tryd.func182 (by kernel_rfl) rfl #[.agg (nums .i64 r).toArray] rfl (by (try simp only [List.map_toArray, List.map_cons, List.map_nil]); first | done | rfl) ?_; refine (impl_Root_right.calls r NR.out b4 _ Wb4.out).mono ?_; rintro e_ w_ ⟨rfl, d_⟩; have b_ := d_; refine ⟨_, rfl, ?_⟩; have Hn := Aside0.mk (blk_below H1.out b_); have HBn := Aside0.mk (below_then HB.out HB.out.size b_); clear b_ d_ H1 HB; have H1 := Hn; have HB := HBn; clear Hn HBn; cases b4) | ((with_reducible refine gate_dst (N := 30) rfl ?_); refine Go.Proofs.YtknlpjoidjgciaaDoorW.PrintTab2.ungd (by rfl) ?_; refine wpList_ld1 rfl 3 (.tmp 29) rfl s0 4 rfl (.int .i64 y0) Tryd.underlying3 rfl H1.out (by rw [HY0.out]; exact snapC_at4 NR.out) ?_) | ((with_reducible refine gate_dst (N := 31) rfl ?_); refine Go.Proofs.YtknlpjoidjgciaaDoorW.PrintTab2.ungd (by rfl) ?_; refine goesL_ (some 31) rfl rfl Tryd.func183 (by kernel_rfl) rfl #[.int .i64 y0] rfl (by (try simp only [List.map_toArray, List.map_cons, List.map_nil]); first | done | rfl) ?_; refine (impl_tableSize.calls y0 b5 _ Wb5.out).mono ?_; rintro e_ w_ ⟨rfl, d_⟩; have b_ := kept_drawn d_; refine ⟨_, rfl, ?_⟩; have Hn := Aside0.mk (blk_below H1.out b_); have HBn := Aside0.mk (below_then HB.out HB.out.size b_); clear b_ d_ H1 HB; have H1 := Hn; have HB := HBn; clear Hn HBn; cases b5))
  all_goals (go_ret; exact ⟨by rw [← H.out, HIN.out]; rfl, HB.out⟩)
open Go.Proofs.YtknlpjoidjgciaaDoorW Go.Proofs.YtknlpjoidjgciaaDoorW.PrintHand Go.Proofs.YtknlpjoidjgciaaDoorW.PrintHx
open Go.Proofs.YtknlpjoidjgciaaDoorW.PrintLe Go.Proofs.YtknlpjoidjgciaaDoorW.PrintGrow Go.Proofs.YtknlpjoidjgciaaDoorW.PrintDec Go.Proofs.YtknlpjoidjgciaaDoorW.PrintIno Go.Proofs.YtknlpjoidjgciaaDoorW.PrintTab2 Go.Proofs.YtknlpjoidjgciaaDoorW.PrintTab3 Go.Proofs.YtknlpjoidjgciaaDoorW.PrintFsi Go.Proofs.YtknlpjoidjgciaaDoorW.PrintFsb Go.Proofs.YtknlpjoidjgciaaDoorW.PrintFsd Go.Proofs.YtknlpjoidjgciaaDoorW.PrintCrc Go.Proofs.YtknlpjoidjgciaaDoorW.PrintSnp Go.Proofs.YtknlpjoidjgciaaDoorW.PrintRaw
theorem impl_EncodeSnap.sealed {x : Int} {s : ByteArray} {p q : Int} {r : List Int} (hs : s.size ≤ 26) (hr : r.length = 15) : impl_sealed.f 6000 (snapBody x s p q r ++ List.replicate 392 0) = some (snapBytes x s p q r) := by
  have hb := snapFill_byt x s p q r
  have hl : (snapFill x s p q r).length = 508 := snapFill_length hs hr
  have hc := crcV_range hb
  have hbl : (snapBody x s p q r).length = 120 := snapBody_length hs hr
  have ht : (snapBody x s p q r ++ List.replicate 392 0).take 508 = snapFill x s p q r := by
    rw [List.take_append, List.take_of_length_le (by rw [hbl]; decide), hbl, List.take_replicate]
    rfl
  unfold impl_sealed.f
  rw [if_pos (by rw [List.length_append, hbl, List.length_replicate]; decide), ht, implCrc_v (snapFill x s p q r) hb (by rw [hl]; decide) 6000 (by rw [hl]; decide)]
  simp only [Option.bind_some]
  rw [show (508 : Int) = ((508 : Nat) : Int) from rfl, show (4 : Int) = ((4 : Nat) : Int) from rfl, put32_f _ 508 4 (crcV (snapFill x s p q r)) hc.1 (by omega) (by decide) (by rw [List.length_append, hbl, List.length_replicate]; decide) (by rw [List.length_append, hbl, List.length_replicate]; decide) 6000 (by decide)]
  simp only [Option.bind_some]
  rw [ht, List.drop_eq_nil_of_le (by rw [List.length_append, hbl, List.length_replicate]; decide), List.append_nil]
  rfl
set_option maxHeartbeats 8000000 in
set_option maxRecDepth 100000 in
theorem impl_EncodeSnap.calls (x : Int) (s : ByteArray) (p q : Int) (r : List Int) (nr : r.length = 15) (k : Nat) (c : Int) (hc : impl_CheckName.f k s = some c) (hsz : c = 0 → s.size ≤ 26) (r1 : List Int) (r2 : Int) (w : World) (hv : Kd.C (Kd.int .u8) w (some ⟨2, 0, none⟩) 8 magicS) (h : (if snapGood x c p q r = true then (snapBytes x s p q r, (0 : Int)) else ([], 7)) = (r1, r2)) :
    Calls Tryd.prog 146 #[.agg (snapC x s p q r).toArray] w fun e w' => ∃ v0_ : Value, e = .returned (.tuple #[v0_, .int .i64 r2]) ∧ Kd.R (Kd.int .u8) 5 w' w.heap.size (fun _ => True) v0_ r1 ∧ Below w.heap.size w w' := by
  have HV := Aside0.mk hv
  have NR := Aside0.mk nr
  have HC := Aside0.mk hc
  have HB0 : Aside0 (Below w.heap.size w w) := ⟨Below.refl _ _⟩
  obtain ⟨s0, Sz0⟩ : ∃ s0, Aside0 (w.heap.size = s0) := ⟨_, ⟨rfl⟩⟩
  have hw0 : w.heap.size ≤ s0 := Nat.le_of_eq Sz0.out
  have hw1 : s0 ≤ w.heap.size := Nat.le_of_eq Sz0.out.symm
  by_cases hgood : snapGood x c p q r = true
  case neg =>
    rw [if_neg hgood] at h
    obtain ⟨rfl, rfl⟩ := Prod.mk.inj h
    have HG := Aside0.mk (show impl_Snap_right.f x c p q r = some false by rw [show false = snapGood x c p q r by simpa using hgood]; rfl)
    clear hgood nr hv hc hsz h
    go_enter Tryd.func146, Tryd.ntmps146
    go_wp2_with (first | ((with_reducible refine gate_dst (N := 1) rfl ?_); refine hx_box rfl 1 rfl 131 (.tmp 0) rfl Sz0 (.agg (snapC x s p q r).toArray) (snapC x s p q r).toArray rfl (by simp [Value.cells]) ?_; intro w1 s1 L1 Sz1 b1_ g_; have H_1 := Aside0.mk g_; have HB1 := Aside0.mk (below_then HB0.out HB0.out.size b1_); clear g_ HB0 b1_) | ((with_reducible refine gate_dst (N := 5) rfl ?_); refine hx_load rfl 131 (.tmp 1) rfl s0 19 rfl Tryd.underlying131 rfl (by kernel_rfl) H_1.out (snapC_size NR.out) ?_) | ((with_reducible refine gate_dst (N := 6) rfl ?_); refine goesL_ (some 6) rfl rfl Tryd.func171 (by kernel_rfl) rfl #[.agg (snapC x s p q r).toArray] rfl (by (try simp only [List.map_toArray, List.map_cons, List.map_nil]); first | done | rfl) ?_; refine (impl_Snap_right.calls x s p q r NR.out k c HC.out false _ HG.out).mono ?_; rintro e_ w2 ⟨rfl, b_⟩; refine ⟨_, rfl, ?_⟩; have HB2 := Aside0.mk (below_then HB1.out HB1.out.size b_); have H_2 := Aside0.mk (blk_below H_1.out b_); obtain ⟨s2, L2, Sz2⟩ := size_letter Sz1 (kept_below b_); clear b_ HB1 H_1))
    go_ret2
    exact ⟨_, rfl, Kd.R_nil _ _ _ _ _, HB2.out⟩
  rw [if_pos hgood] at h
  obtain ⟨rfl, rfl⟩ := Prod.mk.inj h
  have HG := Aside0.mk (show impl_Snap_right.f x c p q r = some true by rw [← hgood]; rfl)
  obtain ⟨gx, gc, gp, gq, gr⟩ := snapGood_get hgood
  have hs26 := hsz gc
  have HSE := Aside0.mk (impl_EncodeSnap.sealed (x := x) (p := p) (q := q) hs26 nr)
  have GR := Aside0.mk gr
  have S26 := Aside0.mk hs26
  have info5_ : (Tryd.prog.info? 5).map (fun i => (i.zero, i.size, i.bytes)) = some (some (.int .u8 0), 1, 1) := by kernel_rfl
  clear hgood hv nr hc hsz h gx gc gp gq gr hs26
  go_enter Tryd.func146, Tryd.ntmps146
  go_wp2_with (first | ((with_reducible refine gate_dst (N := 1) rfl ?_); refine hx_box rfl 1 rfl 131 (.tmp 0) rfl Sz0 (.agg (snapC x s p q r).toArray) (snapC x s p q r).toArray rfl (by simp [Value.cells]) ?_; intro w1 s1 L1 Sz1 b1_ g_; have H_1 := Aside0.mk g_; have HB1 := Aside0.mk (below_then HB0.out HB0.out.size b1_); clear g_ HB0 b1_) | ((with_reducible refine gate_dst (N := 5) rfl ?_); refine hx_load rfl 131 (.tmp 1) rfl s0 19 rfl Tryd.underlying131 rfl (by kernel_rfl) H_1.out (snapC_size NR.out) ?_) | ((with_reducible refine gate_dst (N := 6) rfl ?_); refine goesL_ (some 6) rfl rfl Tryd.func171 (by kernel_rfl) rfl #[.agg (snapC x s p q r).toArray] rfl (by (try simp only [List.map_toArray, List.map_cons, List.map_nil]); first | done | rfl) ?_; refine (impl_Snap_right.calls x s p q r NR.out k c HC.out true _ HG.out).mono ?_; rintro e_ w2 ⟨rfl, b_⟩; refine ⟨_, rfl, ?_⟩; have HB2 := Aside0.mk (below_then HB1.out HB1.out.size b_); have H_2 := Aside0.mk (blk_below H_1.out b_); obtain ⟨s2, L2, Sz2⟩ := size_letter Sz1 (kept_below b_); clear b_ HB1 H_1) | ((with_reducible refine gate_dst (N := 8) rfl ?_); refine make_num rfl (N := 8) rfl 512 5 .u8 Sz2 ?hr ?_; (case hr => exact make_u8 22 5 512 _ _ rfl rfl rfl Tryd.underlying22 info5_ (by decide)); intro w3 s3 L3 Sz3 b_ g_; have HB3 := Aside0.mk (below_then HB2.out HB2.out.size b_); have H_3 := Aside0.mk (blk_below H_2.out b_); obtain ⟨Q0, hq0⟩ : ∃ Q, Q = List.replicate 512 (0 : Int) := ⟨_, rfl⟩; rw [← hq0] at g_; have HC_3 := Aside0.mk g_; have E0 := Aside0.mk hq0; have N0 := Aside0.mk (show Q0.length = 512 by rw [hq0]; simp); clear b_ g_ hq0 HB2 H_2) | ((with_reducible refine gate_dst (N := 11) rfl ?_); refine cp_num rfl (.tmp 9) (.tmp 10) 22 22 rfl 5 Tryd.underlying22 (by kernel_rfl) s2 0 512 512 (some ⟨2, 0, none⟩) 8 magicS Q0 rfl rfl HC_3.out (by decide) (by decide) (by rw [N0.out]; decide) (Kd.C_below HV.out (HB3.out)) ?_; intro w4 t_ g_; change w4.heap[s2]? = some (.cells (nums .u8 (Q0.take 0 ++ magicS ++ Q0.drop (0 + 8))).toArray 5 (0, 0)) at g_; have m_ := (MT.refl s2 w3).touch t_; obtain ⟨Q1, hq_⟩ : ∃ Q, Q = Q0.take (0) ++ magicS ++ Q0.drop (0 + 8) := ⟨_, rfl⟩; rw [← hq_] at g_; have N1 := Aside0.mk (show Q1.length = 512 by rw [hq_, List.length_append, List.length_append, List.length_take, List.length_drop, show magicS.length = 8 from rfl, N0.out]; (have := S26.out; first | decide | omega)); have E1 := Aside0.mk hq_; have HC_4 := Aside0.mk g_; have H_4 := Aside0.mk (m_.blk (show s0 ≠ s2 by omega) H_3.out); have M_4 := Aside0.mk m_; clear m_ g_ t_ hq_ HC_3 H_3) | ((with_reducible refine gate_dst (N := 14) rfl ?_); refine wpList_ld1 rfl 3 (.tmp 13) rfl s0 0 rfl (.int .i64 x) Tryd.underlying3 rfl H_4.out rfl ?_) | ((with_reducible refine gate_dst (N := 15) rfl ?_); refine goesL_ (some 15) rfl rfl Tryd.func168 (by kernel_rfl) rfl #[.slice (some ⟨s2, 0, none⟩) 512 512, .int .i64 8, .int .i64 1, .int .i64 x] rfl (by (try simp only [List.map_toArray, List.map_cons, List.map_nil]); first | done | rfl) ?_; refine (impl_put_int.raw s2 0 512 512 8 1 Q1 x w4 HC_4.out (by rw [N1.out]; decide) (by decide) (by decide) (by rw [N1.out]; decide)).mono ?_; rintro e_ w5 ⟨rfl, m_, g_⟩; refine ⟨_, rfl, ?_⟩; obtain ⟨Q2, hq_⟩ : ∃ Q, Q = Q1.take (0 + 8) ++ leB x 1 ++ Q1.drop (0 + 8 + 1) := ⟨_, rfl⟩; rw [← hq_] at g_; have N2 := Aside0.mk (show Q2.length = 512 by rw [hq_, List.length_append, List.length_append, List.length_take, List.length_drop, leB_length, N1.out]; (have := S26.out; first | decide | omega)); have E2 := Aside0.mk hq_; have HC_5 := Aside0.mk g_; have H_5 := Aside0.mk (m_.blk (show s0 ≠ s2 by omega) H_4.out); have M_5 := Aside0.mk (M_4.out.trans m_); clear m_ g_ hq_ HC_4 H_4 M_4) | ((with_reducible refine gate_dst (N := 18) rfl ?_); refine wpList_ld1 rfl 9 (.tmp 17) rfl s0 1 rfl (.string s) Tryd.underlying9 rfl H_5.out rfl ?_) | ((with_reducible refine gate_dst (N := 20) rfl ?_); refine goesL_ (some 20) rfl rfl Tryd.func168 (by kernel_rfl) rfl #[.slice (some ⟨s2, 0, none⟩) 512 512, .int .i64 9, .int .i64 1, .int .i64 ((s.size : Nat) : Int)] rfl (by (try simp only [List.map_toArray, List.map_cons, List.map_nil]); first | done | rfl) ?_; refine (impl_put_int.raw s2 0 512 512 9 1 Q2 ((s.size : Nat) : Int) w5 HC_5.out (by rw [N2.out]; decide) (by decide) (by decide) (by rw [N2.out]; decide)).mono ?_; rintro e_ w6 ⟨rfl, m_, g_⟩; refine ⟨_, rfl, ?_⟩; obtain ⟨Q3, hq_⟩ : ∃ Q, Q = Q2.take (0 + 9) ++ leB ((s.size : Nat) : Int) 1 ++ Q2.drop (0 + 9 + 1) := ⟨_, rfl⟩; rw [← hq_] at g_; have N3 := Aside0.mk (show Q3.length = 512 by rw [hq_, List.length_append, List.length_append, List.length_take, List.length_drop, leB_length, N2.out]; (have := S26.out; first | decide | omega)); have E3 := Aside0.mk hq_; have HC_6 := Aside0.mk g_; have H_6 := Aside0.mk (m_.blk (show s0 ≠ s2 by omega) H_5.out); have M_6 := Aside0.mk (M_5.out.trans m_); clear m_ g_ hq_ HC_5 H_5 M_5))
  (try simp only [Act.put, List.setIfInBounds_toArray, List.set_cons_succ, List.set_cons_zero])
  refine PrintQTail.wp_region_quiet_tail 4 (by kernel_rfl) (by kernel_rfl) ?_
  simp only [List.take_succ_cons, List.take_zero, List.drop_succ_cons, List.drop_zero]
  quiet_step (fail)
  quiet_step (fail)
  quiet_step (fail)
  refine quiet_ld1 rfl 9 (.tmp 23) rfl s0 1 rfl (.string s) Tryd.underlying9 rfl H_6.out rfl ?_
  refine wpQuiet_nil ?_
  intro w_ hw_
  obtain ⟨nq7, rfl⟩ := hw_
  go_wp2_with (first | ((with_reducible refine gate_dst (N := 25) rfl ?_); refine cp_str rfl (.tmp 22) (.tmp 24) 22 9 rfl 5 Tryd.underlying22 (by kernel_rfl) s2 10 502 502 s Q3 rfl rfl (blk_drewN HC_6.out _) (by have := S26.out; omega) (by rw [N3.out]; have := S26.out; omega) ?_; intro w7 t_ g_; have m_ := ((MT.refl s2 w6).then_ (pw_below_drewN (Below.refl _ _) nq7)).trans ((MT.refl s2 _).touch t_); obtain ⟨Q4, hq_⟩ : ∃ Q, Q = Q3.take (10) ++ bytesOf s ++ Q3.drop (10 + s.size) := ⟨_, rfl⟩; rw [← hq_] at g_; have N4 := Aside0.mk (show Q4.length = 512 by rw [hq_, List.length_append, List.length_append, List.length_take, List.length_drop, bytesOf_length, N3.out]; (have := S26.out; first | decide | omega)); have E4 := Aside0.mk hq_; have HC_7 := Aside0.mk g_; have H_7 := Aside0.mk (m_.blk (show s0 ≠ s2 by omega) H_6.out); have M_7 := Aside0.mk (M_6.out.trans m_); clear m_ g_ t_ hq_ HC_6 H_6 M_6) | ((with_reducible refine gate_dst (N := 28) rfl ?_); refine wpList_ld1 rfl 3 (.tmp 27) rfl s0 2 rfl (.int .i64 p) Tryd.underlying3 rfl H_7.out rfl ?_) | ((with_reducible refine gate_dst (N := 29) rfl ?_); refine goesL_ (some 29) rfl rfl Tryd.func168 (by kernel_rfl) rfl #[.slice (some ⟨s2, 0, none⟩) 512 512, .int .i64 40, .int .i64 8, .int .i64 p] rfl (by (try simp only [List.map_toArray, List.map_cons, List.map_nil]); first | done | rfl) ?_; refine (impl_put_int.raw s2 0 512 512 40 8 Q4 p w7 HC_7.out (by rw [N4.out]; decide) (by decide) (by decide) (by rw [N4.out]; decide)).mono ?_; rintro e_ w8 ⟨rfl, m_, g_⟩; refine ⟨_, rfl, ?_⟩; obtain ⟨Q5, hq_⟩ : ∃ Q, Q = Q4.take (0 + 40) ++ leB p 8 ++ Q4.drop (0 + 40 + 8) := ⟨_, rfl⟩; rw [← hq_] at g_; have N5 := Aside0.mk (show Q5.length = 512 by rw [hq_, List.length_append, List.length_append, List.length_take, List.length_drop, leB_length, N4.out]; (have := S26.out; first | decide | omega)); have E5 := Aside0.mk hq_; have HC_8 := Aside0.mk g_; have H_8 := Aside0.mk (m_.blk (show s0 ≠ s2 by omega) H_7.out); have M_8 := Aside0.mk (M_7.out.trans m_); clear m_ g_ hq_ HC_7 H_7 M_7) | ((with_reducible refine gate_dst (N := 32) rfl ?_); refine wpList_ld1 rfl 3 (.tmp 31) rfl s0 3 rfl (.int .i64 q) Tryd.underlying3 rfl H_8.out rfl ?_) | ((with_reducible refine gate_dst (N := 33) rfl ?_); refine goesL_ (some 33) rfl rfl Tryd.func168 (by kernel_rfl) rfl #[.slice (some ⟨s2, 0, none⟩) 512 512, .int .i64 48, .int .i64 8, .int .i64 q] rfl (by (try simp only [List.map_toArray, List.map_cons, List.map_nil]); first | done | rfl) ?_; refine (impl_put_int.raw s2 0 512 512 48 8 Q5 q w8 HC_8.out (by rw [N5.out]; decide) (by decide) (by decide) (by rw [N5.out]; decide)).mono ?_; rintro e_ w9 ⟨rfl, m_, g_⟩; refine ⟨_, rfl, ?_⟩; obtain ⟨Q6, hq_⟩ : ∃ Q, Q = Q5.take (0 + 48) ++ leB q 8 ++ Q5.drop (0 + 48 + 8) := ⟨_, rfl⟩; rw [← hq_] at g_; have N6 := Aside0.mk (show Q6.length = 512 by rw [hq_, List.length_append, List.length_append, List.length_take, List.length_drop, leB_length, N5.out]; (have := S26.out; first | decide | omega)); have E6 := Aside0.mk hq_; have HC_9 := Aside0.mk g_; have H_9 := Aside0.mk (m_.blk (show s0 ≠ s2 by omega) H_8.out); have M_9 := Aside0.mk (M_8.out.trans m_); clear m_ g_ hq_ HC_8 H_8 M_8))
  (try simp only [Act.put, List.setIfInBounds_toArray, List.set_cons_succ, List.set_cons_zero])
  refine PrintQTail.wp_region_quiet_tail 4 (by kernel_rfl) (by kernel_rfl) ?_
  simp only [List.take_succ_cons, List.take_zero, List.drop_succ_cons, List.drop_zero]
  quiet_step (fail)
  refine quiet_load_at rfl 124 (.tmp 34) rfl ⟨s0, 4, none⟩ rfl r 15 Tryd.underlying124 rfl (by kernel_rfl) NR.out (fun i hi => by rw [show (⟨s0, 4, none⟩ : Addr).add i = ⟨s0, 4 + i, none⟩ by unfold Addr.add; split <;> simp_all]; exact (blk_cell H_9.out (4 + i)).trans (snapC_rcell NR.out i hi)) ?_
  quiet_step (fail)
  quiet_step (fail)
  refine wpQuiet_nil ?_
  intro w_ hw_
  obtain ⟨nq10, rfl⟩ := hw_
  go_wp2_with (first | ((with_reducible refine gate_dst (N := 38) rfl ?_); refine goesL_ (some 38) rfl rfl Tryd.func169 (by kernel_rfl) rfl #[.agg (nums .i64 r).toArray, .slice (some ⟨s2, 56, none⟩) 456 456] rfl (by (try simp only [List.map_toArray, List.map_cons, List.map_nil]); first | done | rfl) ?_; refine (impl_Root_put.raw r NR.out GR.out s2 56 456 456 Q6 _ (blk_drewN HC_9.out _) (by rw [N6.out]; decide) (by decide) (by rw [N6.out]; decide)).mono ?_; rintro e_ w10 ⟨rfl, m_, g_⟩; refine ⟨_, rfl, ?_⟩; obtain ⟨Q7, hq_⟩ : ∃ Q, Q = Q6.take (56) ++ rootBytes r ++ Q6.drop (56 + 64) := ⟨_, rfl⟩; rw [← hq_] at g_; have N7 := Aside0.mk (show Q7.length = 512 by rw [hq_, List.length_append, List.length_append, List.length_take, List.length_drop, rootBytes_length NR.out, N6.out]; (have := S26.out; first | decide | omega)); have E7 := Aside0.mk hq_; have m2_ := ((MT.refl s2 w9).then_ (pw_below_drewN (Below.refl _ _) nq10)).trans m_; have M_10 := Aside0.mk (M_9.out.trans m2_); have hfin := snap_puts (x := x) (s := s) (p := p) (q := q) (r := r) (Q0 := Q0) (Q1 := Q1) (Q2 := Q2) (Q3 := Q3) (Q4 := Q4) (Q5 := Q5) (Q6 := Q6) (Q7 := Q7) S26.out NR.out E0.out E1.out E2.out E3.out E4.out E5.out E6.out E7.out; rw [hfin] at g_; have HF_ := Aside0.mk (own_blk (B := w.heap.size) g_ (by omega) (by rw [List.length_append, snapBody_length S26.out NR.out, List.length_replicate]; decide)); have HBF := Aside0.mk (M_10.out.below HB3.out HB3.out.size (by omega)); clear m_ m2_ g_ hq_ hfin HC_9 M_9 M_10 H_9 HB3) | ((with_reducible refine gate_dst (N := 40) rfl ?_); refine goesL_ (some 40) rfl rfl Tryd.func170 (by kernel_rfl) rfl #[.slice (some ⟨s2, 0, none⟩) 512 512] rfl (by (try simp only [List.map_toArray, List.map_cons, List.map_nil]); first | done | rfl) ?_; have ho_ := HF_.out; rw [show (snapBody x s p q r ++ List.replicate 392 (0 : Int)).length = 512 by rw [List.length_append, snapBody_length S26.out NR.out, List.length_replicate]] at ho_; refine (impl_sealed.calls 6000 (fun _ => True) _ _ _ w _ HBF.out ho_ HSE.out).mono ?_; rintro e_ w16 ⟨v66, rfl, R_, b_, k_⟩; refine ⟨_, rfl, ?_⟩; have O66 := Aside0.mk (Kd.R_mono (ok' := fun _ => True) R_ (fun _ _ => trivial)); have HB16 := Aside0.mk b_; clear R_ b_ k_ ho_))
  go_ret2
  exact ⟨_, rfl, O66.out, HB16.out⟩
open Go.Proofs.YtknlpjoidjgciaaDoorW Go.Proofs.YtknlpjoidjgciaaDoorW.PrintHand Go.Proofs.YtknlpjoidjgciaaDoorW.PrintHx
open Go.Proofs.YtknlpjoidjgciaaDoorW.PrintLe Go.Proofs.YtknlpjoidjgciaaDoorW.PrintGrow Go.Proofs.YtknlpjoidjgciaaDoorW.PrintDec Go.Proofs.YtknlpjoidjgciaaDoorW.PrintIno Go.Proofs.YtknlpjoidjgciaaDoorW.PrintTab2 Go.Proofs.YtknlpjoidjgciaaDoorW.PrintTab3 Go.Proofs.YtknlpjoidjgciaaDoorW.PrintFsi Go.Proofs.YtknlpjoidjgciaaDoorW.PrintFsb Go.Proofs.YtknlpjoidjgciaaDoorW.PrintFsd Go.Proofs.YtknlpjoidjgciaaDoorW.PrintCrc Go.Proofs.YtknlpjoidjgciaaDoorW.PrintSnp Go.Proofs.YtknlpjoidjgciaaDoorW.PrintSnd
set_option maxHeartbeats 8000000 in
set_option maxRecDepth 100000 in
theorem impl_Snap.calls (A0 : Option Addr) (c0 : Nat) (l0 : List Int) (k : Nat) (c : Int) (hck : impl_CheckName.f k (nameS l0) = some c) (hcz : c = 0 → (nameS l0).size ≤ 26) (x1 : Int) (s1 : ByteArray) (p1 q1 : Int) (r1 : List Int) (k1 : Int) (w : World) (hv : Kd.C (Kd.int .u8) w (some ⟨2, 0, none⟩) 8 magicS) (hr0 : Kd.C (Kd.int .u8) w A0 l0.length l0) (hc0 : l0.length ≤ c0) (hby : ∀ x ∈ l0, 0 ≤ x ∧ x ≤ 255) (h : snapB c l0 = (x1, s1, p1, q1, r1, k1)) :
    Calls Tryd.prog 144 #[.slice A0 l0.length c0, .int .i64 512, .func (.func 145) #[] #[], .func (.func 146) #[] #[]] w fun e w' => e = .returned (.tuple #[.agg (snapC x1 s1 p1 q1 r1).toArray, .int .i64 k1]) ∧ Below w.heap.size w w' := by
  unfold snapB at h
  have HV := Aside0.mk hv
  have HBY : Aside0 (Byt l0) := ⟨hby⟩
  have HR0 := Aside0.mk hr0
  have HC0 := Aside0.mk hc0
  have HCK := Aside0.mk hck
  have HCZ := Aside0.mk hcz
  clear hv hby hr0 hc0 hck hcz
  have Z131 : ∀ w, (zeroValue 131).run Tryd.prog w = .ok (.agg (snapC 0 ByteArray.empty 0 0 (List.replicate 15 0)).toArray) w := fun _ => by kernel_rfl
  have HB0 : Aside0 (Below w.heap.size w w) := ⟨Below.refl _ _⟩
  obtain ⟨s0, Sz0⟩ : ∃ s0, Aside0 (w.heap.size = s0) := ⟨_, ⟨rfl⟩⟩
  have hw0 : w.heap.size ≤ s0 := Nat.le_of_eq Sz0.out
  have hw1 : s0 ≤ w.heap.size := Nat.le_of_eq Sz0.out.symm
  by_cases hl : l0.length = 512
  case neg =>
    have hd : decS (l0.getD 8 0) (nameS l0) (wrap64 (le (seg l0 40 8))) (wrap64 (le (seg l0 48 8))) (rootB (seg l0 56 64)) c l0 = (0, ByteArray.empty, 0, 0, (List.replicate 15 0), 21) := by unfold decS; rw [if_neg (fun h_ => hl h_.1)]
    rw [hd] at h
    simp only [Prod.mk.injEq] at h
    obtain ⟨rfl, rfl, rfl, rfl, rfl, rfl⟩ := h
    clear hd
    have k0 : ((l0.length : Int) != 512) = true := bne_iff_ne.2 (by omega)
    clear hl
    go_enter Tryd.func144, Tryd.ntmps144
    go_wp2_with (first | ((with_reducible refine gate_dst (N := 8) rfl ?_); refine hx_alloc rfl 8 rfl 131 rfl Sz0 (.agg (snapC 0 ByteArray.empty 0 0 (List.replicate 15 0)).toArray) (snapC 0 ByteArray.empty 0 0 (List.replicate 15 0)).toArray Z131 (by simp [Value.cells]) ?_; intro w1 s1 Ls1 Ss1 b_ g_; have H8 := Aside0.mk g_; have HB1 := Aside0.mk (below_then HB0.out HB0.out.size b_); clear b_ g_ HB0) | ((with_reducible refine gate_dst (N := 10) rfl ?_); refine hx_alloc rfl 10 rfl 131 rfl Ss1 (.agg (snapC 0 ByteArray.empty 0 0 (List.replicate 15 0)).toArray) (snapC 0 ByteArray.empty 0 0 (List.replicate 15 0)).toArray Z131 (by simp [Value.cells]) ?_; intro w2 s2 Ls2 Ss2 b_ g_; have H10 := Aside0.mk g_; have HB2 := Aside0.mk (below_then HB1.out HB1.out.size b_); have H8_2 := Aside0.mk (blk_below H8.out b_); clear b_ g_ HB1 H8) | ((with_reducible refine gate_dst (N := 18) rfl ?_); refine hx_load rfl 131 (.tmp 10) rfl s1 19 rfl Tryd.underlying131 rfl (by kernel_rfl) H10.out snapZ_size ?_) | ((with_reducible refine gate_store (t := 131) (p := 8) (v := .tmp 18) rfl ?_); refine hx_store rfl rfl 131 (.tmp 8) (.tmp 18) rfl s0 19 rfl (snapC 0 ByteArray.empty 0 0 (List.replicate 15 0)).toArray rfl (by kernel_rfl) snapZ_size (snapC_one _ _ _ _ _) H8_2.out snapZ_size ?_; intro we t_ gg_; have HE := Aside0.mk gg_; have HEB := Aside0.mk (t_.below HB2.out (by omega)); clear t_ gg_ H8_2 HB2 ))
    exact bodyPost_ret (results_ct rfl _ _ s0 131 (snapC 0 ByteArray.empty 0 0 (List.replicate 15 0)).toArray (0, 0) _ rfl HE.out Tryd.underlying131 rfl (by rw [snapZ_size]; kernel_rfl)) rfl ⟨rfl, HEB.out⟩
  have k0 : ((l0.length : Int) != 512) = false := by rw [hl]; rfl
  obtain ⟨x, hx⟩ : ∃ z, z = l0.getD 8 0 := ⟨_, rfl⟩
  obtain ⟨s, hs⟩ : ∃ z, z = nameS l0 := ⟨_, rfl⟩
  obtain ⟨p, hp⟩ : ∃ z, z = wrap64 (le (seg l0 40 8)) := ⟨_, rfl⟩
  obtain ⟨q, hq⟩ : ∃ z, z = wrap64 (le (seg l0 48 8)) := ⟨_, rfl⟩
  obtain ⟨r, hr⟩ : ∃ z, z = rootB (seg l0 56 64) := ⟨_, rfl⟩
  have X1 := Aside0.mk hx
  have X2 := Aside0.mk hs
  have X3 := Aside0.mk hp
  have X4 := Aside0.mk hq
  have X5 := Aside0.mk hr
  have NR := Aside0.mk (show r.length = 15 by rw [hr]; exact rootOf_length _ _)
  have HCKs := Aside0.mk (show impl_CheckName.f k s = some c by rw [hs]; exact HCK.out)
  have HCZs := Aside0.mk (show c = 0 → s.size ≤ 26 by rw [hs]; exact HCZ.out)
  rw [← hx, ← hs, ← hp, ← hq, ← hr] at h
  have HL := Aside0.mk hl
  clear hx hs hp hq hr hl HCK HCZ
  by_cases hg : snapGood x c p q r = true
  case neg =>
    have hd : decS x s p q r c l0 = (0, ByteArray.empty, 0, 0, (List.replicate 15 0), 21) := by unfold decS; rw [if_neg (fun h_ => hg h_.2.1)]
    rw [hd] at h
    simp only [Prod.mk.injEq] at h
    obtain ⟨rfl, rfl, rfl, rfl, rfl, rfl⟩ := h
    clear hd
    have ER := Aside0.mk (show (if snapGood x c p q r = true then (snapBytes x s p q r, (0 : Int)) else ([], 7)) = ([], 7) from if_neg hg)
    clear hg
    go_enter Tryd.func144, Tryd.ntmps144
    go_wp2_with (first | ((with_reducible refine gate_dst (N := 8) rfl ?_); refine hx_alloc rfl 8 rfl 131 rfl Sz0 (.agg (snapC 0 ByteArray.empty 0 0 (List.replicate 15 0)).toArray) (snapC 0 ByteArray.empty 0 0 (List.replicate 15 0)).toArray Z131 (by simp [Value.cells]) ?_; intro w1 s1 Ls1 Ss1 b_ g_; have H8 := Aside0.mk g_; have HB1 := Aside0.mk (below_then HB0.out HB0.out.size b_); clear b_ g_ HB0) | ((with_reducible refine gate_dst (N := 10) rfl ?_); refine hx_alloc rfl 10 rfl 131 rfl Ss1 (.agg (snapC 0 ByteArray.empty 0 0 (List.replicate 15 0)).toArray) (snapC 0 ByteArray.empty 0 0 (List.replicate 15 0)).toArray Z131 (by simp [Value.cells]) ?_; intro w2 s2 Ls2 Ss2 b_ g_; have H10 := Aside0.mk g_; have HB2 := Aside0.mk (below_then HB1.out HB1.out.size b_); have H8_2 := Aside0.mk (blk_below H8.out b_); clear b_ g_ HB1 H8) | ((with_reducible refine gate_dst (N := 21) rfl ?_); refine goesV_ (some 21) rfl rfl Tryd.func145 (by kernel_rfl) rfl #[.slice A0 l0.length c0] rfl rfl (by (try simp only [List.map_toArray, List.map_cons, List.map_nil]); first | done | rfl) ?_; refine (impl_getSnap.calls A0 c0 l0 x s p q r _ (Kd.C_below HR0.out HB2.out) HC0.out HL.out HBY.out X1.out X2.out X3.out X4.out X5.out).mono ?_; rintro e_ w3 ⟨rfl, b_⟩; refine ⟨_, rfl, ?_⟩; have HB3 := Aside0.mk (below_then HB2.out HB2.out.size b_); have H8_3 := Aside0.mk (blk_below H8_2.out b_); have H10_3 := Aside0.mk (blk_below H10.out b_); have hz_ := blk_lt H10_3.out; have hy_ := blk_lt H8_3.out; obtain ⟨s3, Ss3⟩ : ∃ s, Aside0 (w3.heap.size = s) := ⟨_, ⟨rfl⟩⟩; rw [Ss3.out] at hz_ hy_; clear b_ H8_2 H10 HB2) | ((with_reducible refine gate_dst (N := 11) rfl ?_); refine hx_alloc rfl 11 rfl 131 rfl Ss3 (.agg (snapC 0 ByteArray.empty 0 0 (List.replicate 15 0)).toArray) (snapC 0 ByteArray.empty 0 0 (List.replicate 15 0)).toArray Z131 (by simp [Value.cells]) ?_; intro w4 s4 Ls4 Ss4 b_ g_; have HG4 := Aside0.mk g_; have HB4 := Aside0.mk (below_then HB3.out HB3.out.size b_); have H8_4 := Aside0.mk (blk_below H8_3.out b_); have H10_4 := Aside0.mk (blk_below H10_3.out b_); clear b_ g_ HB3 H8_3 H10_3) | ((with_reducible refine gate_store (t := 131) (p := 11) (v := .tmp 21) rfl ?_); refine hx_store rfl rfl 131 (.tmp 11) (.tmp 21) rfl s3 19 rfl (snapC x s p q r).toArray rfl (by kernel_rfl) (snapC_size NR.out) (snapC_one _ _ _ _ _) HG4.out snapZ_size ?_; intro w5 t_ gg_; have HG5 := Aside0.mk gg_; have H8_5 := Aside0.mk (t_.keep (show s0 ≠ s3 by omega) H8_4.out); have H10_5 := Aside0.mk (t_.keep (show s1 ≠ s3 by omega) H10_4.out); have HB5 := Aside0.mk (t_.below HB4.out (by omega)); clear t_ gg_ HG4 HB4 H8_4 H10_4) | ((with_reducible refine gate_dst (N := 24) rfl ?_); refine hx_load rfl 131 (.tmp 11) rfl s3 19 rfl Tryd.underlying131 rfl (by kernel_rfl) HG5.out (snapC_size NR.out) ?_) | ((with_reducible refine gate_dst (N := 25) rfl ?_); refine goesV_ (some 25) rfl rfl Tryd.func146 (by kernel_rfl) rfl #[.agg (snapC x s p q r).toArray] rfl rfl (by (try simp only [List.map_toArray, List.map_cons, List.map_nil]); first | done | rfl) ?_; refine (impl_EncodeSnap.calls x s p q r NR.out k c HCKs.out HCZs.out [] 7 _ (Kd.C_below HV.out HB5.out) ER.out).mono ?_; rintro e_ w6 ⟨v0_, rfl, R_, b_⟩; refine ⟨_, rfl, ?_⟩; have HG6 := Aside0.mk (blk_below HG5.out b_); have H8_6 := Aside0.mk (blk_below H8_5.out b_); have H10_6 := Aside0.mk (blk_below H10_5.out b_); have HB6 := Aside0.mk (below_then HB5.out HB5.out.size b_); clear b_ R_ HG5 H8_5 H10_5 HB5) | ((with_reducible refine gate_dst (N := 36) rfl ?_); refine hx_load rfl 131 (.tmp 10) rfl s1 19 rfl Tryd.underlying131 rfl (by kernel_rfl) H10_6.out snapZ_size ?_) | ((with_reducible refine gate_store (t := 131) (p := 8) (v := .tmp 36) rfl ?_); refine hx_store rfl rfl 131 (.tmp 8) (.tmp 36) rfl s0 19 rfl (snapC 0 ByteArray.empty 0 0 (List.replicate 15 0)).toArray rfl (by kernel_rfl) snapZ_size (snapC_one _ _ _ _ _) H8_6.out snapZ_size ?_; intro we t_ gg_; have HE := Aside0.mk gg_; have HEB := Aside0.mk (t_.below HB6.out (by omega)); clear t_ gg_ H8_6 HB6 ))
    exact bodyPost_ret (results_ct rfl _ _ s0 131 (snapC 0 ByteArray.empty 0 0 (List.replicate 15 0)).toArray (0, 0) _ rfl HE.out Tryd.underlying131 rfl (by rw [snapZ_size]; kernel_rfl)) rfl ⟨rfl, HEB.out⟩
  have hs0 : ((strOfNums (snapBytes x s p q r)).toList == (strOfNums l0).toList) = decide (snapBytes x s p q r = l0) := strOf_eq (snapBytes_byt x s p q r) HBY.out
  by_cases he : snapBytes x s p q r = l0
  case neg =>
    have hd : decS x s p q r c l0 = (0, ByteArray.empty, 0, 0, (List.replicate 15 0), 21) := by unfold decS; rw [if_neg (fun h_ => he h_.2.2)]
    rw [hd] at h
    simp only [Prod.mk.injEq] at h
    obtain ⟨rfl, rfl, rfl, rfl, rfl, rfl⟩ := h
    clear hd
    rw [decide_eq_false he] at hs0
    obtain ⟨rb, hrb⟩ : ∃ b, b = snapBytes x s p q r := ⟨_, rfl⟩
    have ER := Aside0.mk (show (if snapGood x c p q r = true then (snapBytes x s p q r, (0 : Int)) else ([], 7)) = (rb, 0) by rw [if_pos hg, hrb])
    rw [← hrb] at hs0
    clear hrb hg he
    have EQ := Aside0.mk (show bytes_Equal.f rb l0 = some false by unfold bytes_Equal.f; rw [hs0])
    clear hs0
    go_enter Tryd.func144, Tryd.ntmps144
    go_wp2_with (first | ((with_reducible refine gate_dst (N := 8) rfl ?_); refine hx_alloc rfl 8 rfl 131 rfl Sz0 (.agg (snapC 0 ByteArray.empty 0 0 (List.replicate 15 0)).toArray) (snapC 0 ByteArray.empty 0 0 (List.replicate 15 0)).toArray Z131 (by simp [Value.cells]) ?_; intro w1 s1 Ls1 Ss1 b_ g_; have H8 := Aside0.mk g_; have HB1 := Aside0.mk (below_then HB0.out HB0.out.size b_); clear b_ g_ HB0) | ((with_reducible refine gate_dst (N := 10) rfl ?_); refine hx_alloc rfl 10 rfl 131 rfl Ss1 (.agg (snapC 0 ByteArray.empty 0 0 (List.replicate 15 0)).toArray) (snapC 0 ByteArray.empty 0 0 (List.replicate 15 0)).toArray Z131 (by simp [Value.cells]) ?_; intro w2 s2 Ls2 Ss2 b_ g_; have H10 := Aside0.mk g_; have HB2 := Aside0.mk (below_then HB1.out HB1.out.size b_); have H8_2 := Aside0.mk (blk_below H8.out b_); clear b_ g_ HB1 H8) | ((with_reducible refine gate_dst (N := 21) rfl ?_); refine goesV_ (some 21) rfl rfl Tryd.func145 (by kernel_rfl) rfl #[.slice A0 l0.length c0] rfl rfl (by (try simp only [List.map_toArray, List.map_cons, List.map_nil]); first | done | rfl) ?_; refine (impl_getSnap.calls A0 c0 l0 x s p q r _ (Kd.C_below HR0.out HB2.out) HC0.out HL.out HBY.out X1.out X2.out X3.out X4.out X5.out).mono ?_; rintro e_ w3 ⟨rfl, b_⟩; refine ⟨_, rfl, ?_⟩; have HB3 := Aside0.mk (below_then HB2.out HB2.out.size b_); have H8_3 := Aside0.mk (blk_below H8_2.out b_); have H10_3 := Aside0.mk (blk_below H10.out b_); have hz_ := blk_lt H10_3.out; have hy_ := blk_lt H8_3.out; obtain ⟨s3, Ss3⟩ : ∃ s, Aside0 (w3.heap.size = s) := ⟨_, ⟨rfl⟩⟩; rw [Ss3.out] at hz_ hy_; clear b_ H8_2 H10 HB2) | ((with_reducible refine gate_dst (N := 11) rfl ?_); refine hx_alloc rfl 11 rfl 131 rfl Ss3 (.agg (snapC 0 ByteArray.empty 0 0 (List.replicate 15 0)).toArray) (snapC 0 ByteArray.empty 0 0 (List.replicate 15 0)).toArray Z131 (by simp [Value.cells]) ?_; intro w4 s4 Ls4 Ss4 b_ g_; have HG4 := Aside0.mk g_; have HB4 := Aside0.mk (below_then HB3.out HB3.out.size b_); have H8_4 := Aside0.mk (blk_below H8_3.out b_); have H10_4 := Aside0.mk (blk_below H10_3.out b_); clear b_ g_ HB3 H8_3 H10_3) | ((with_reducible refine gate_store (t := 131) (p := 11) (v := .tmp 21) rfl ?_); refine hx_store rfl rfl 131 (.tmp 11) (.tmp 21) rfl s3 19 rfl (snapC x s p q r).toArray rfl (by kernel_rfl) (snapC_size NR.out) (snapC_one _ _ _ _ _) HG4.out snapZ_size ?_; intro w5 t_ gg_; have HG5 := Aside0.mk gg_; have H8_5 := Aside0.mk (t_.keep (show s0 ≠ s3 by omega) H8_4.out); have H10_5 := Aside0.mk (t_.keep (show s1 ≠ s3 by omega) H10_4.out); have HB5 := Aside0.mk (t_.below HB4.out (by omega)); clear t_ gg_ HG4 HB4 H8_4 H10_4) | ((with_reducible refine gate_dst (N := 24) rfl ?_); refine hx_load rfl 131 (.tmp 11) rfl s3 19 rfl Tryd.underlying131 rfl (by kernel_rfl) HG5.out (snapC_size NR.out) ?_) | ((with_reducible refine gate_dst (N := 25) rfl ?_); refine goesV_ (some 25) rfl rfl Tryd.func146 (by kernel_rfl) rfl #[.agg (snapC x s p q r).toArray] rfl rfl (by (try simp only [List.map_toArray, List.map_cons, List.map_nil]); first | done | rfl) ?_; refine (impl_EncodeSnap.calls x s p q r NR.out k c HCKs.out HCZs.out rb 0 _ (Kd.C_below HV.out HB5.out) ER.out).mono ?_; rintro e_ w6 ⟨v0_, rfl, R_, b_⟩; obtain ⟨Ab, cb, rfl⟩ := Kd.R_slice R_; refine ⟨_, rfl, ?_⟩; have HG6 := Aside0.mk (blk_below HG5.out b_); have H8_6 := Aside0.mk (blk_below H8_5.out b_); have H10_6 := Aside0.mk (blk_below H10_5.out b_); have HB6 := Aside0.mk (below_then HB5.out HB5.out.size b_); have RR := Aside0.mk (Kd.R_reads' R_); clear b_ R_ HG5 H8_5 H10_5 HB5) | (go_at_call 164; (with_reducible refine (bytes_Equal.calls Ab cb rb A0 c0 l0 false _ RR.out.2.2 RR.out.2.1 (Kd.C_below HR0.out HB6.out) HC0.out EQ.out).mono ?_); rintro e_ w7 ⟨rfl, d_⟩; have b_ := kept_drawn d_; have HG7 := Aside0.mk (blk_below HG6.out b_); have H8_7 := Aside0.mk (blk_below H8_6.out b_); have H10_7 := Aside0.mk (blk_below H10_6.out b_); have HB7 := Aside0.mk (below_then HB6.out HB6.out.size b_); clear b_ d_ HG6 H8_6 H10_6 HB6) | ((with_reducible refine gate_dst (N := 36) rfl ?_); refine hx_load rfl 131 (.tmp 10) rfl s1 19 rfl Tryd.underlying131 rfl (by kernel_rfl) H10_7.out snapZ_size ?_) | ((with_reducible refine gate_store (t := 131) (p := 8) (v := .tmp 36) rfl ?_); refine hx_store rfl rfl 131 (.tmp 8) (.tmp 36) rfl s0 19 rfl (snapC 0 ByteArray.empty 0 0 (List.replicate 15 0)).toArray rfl (by kernel_rfl) snapZ_size (snapC_one _ _ _ _ _) H8_7.out snapZ_size ?_; intro we t_ gg_; have HE := Aside0.mk gg_; have HEB := Aside0.mk (t_.below HB7.out (by omega)); clear t_ gg_ H8_7 HB7 ))
    exact bodyPost_ret (results_ct rfl _ _ s0 131 (snapC 0 ByteArray.empty 0 0 (List.replicate 15 0)).toArray (0, 0) _ rfl HE.out Tryd.underlying131 rfl (by rw [snapZ_size]; kernel_rfl)) rfl ⟨rfl, HEB.out⟩
  have hd : decS x s p q r c l0 = (x, s, p, q, r, 0) := by unfold decS; rw [if_pos ⟨HL.out, hg, he⟩]
  rw [hd] at h
  simp only [Prod.mk.injEq] at h
  obtain ⟨rfl, rfl, rfl, rfl, rfl, rfl⟩ := h
  rw [decide_eq_true he] at hs0
  clear hd
  obtain ⟨rb, hrb⟩ : ∃ b, b = snapBytes x s p q r := ⟨_, rfl⟩
  have ER := Aside0.mk (show (if snapGood x c p q r = true then (snapBytes x s p q r, (0 : Int)) else ([], 7)) = (rb, 0) by rw [if_pos hg, hrb])
  rw [← hrb] at hs0
  clear hrb hg he
  have EQ := Aside0.mk (show bytes_Equal.f rb l0 = some true by unfold bytes_Equal.f; rw [hs0])
  clear hs0
  go_enter Tryd.func144, Tryd.ntmps144
  go_wp2_with (first | ((with_reducible refine gate_dst (N := 8) rfl ?_); refine hx_alloc rfl 8 rfl 131 rfl Sz0 (.agg (snapC 0 ByteArray.empty 0 0 (List.replicate 15 0)).toArray) (snapC 0 ByteArray.empty 0 0 (List.replicate 15 0)).toArray Z131 (by simp [Value.cells]) ?_; intro w1 s1 Ls1 Ss1 b_ g_; have H8 := Aside0.mk g_; have HB1 := Aside0.mk (below_then HB0.out HB0.out.size b_); clear b_ g_ HB0) | ((with_reducible refine gate_dst (N := 10) rfl ?_); refine hx_alloc rfl 10 rfl 131 rfl Ss1 (.agg (snapC 0 ByteArray.empty 0 0 (List.replicate 15 0)).toArray) (snapC 0 ByteArray.empty 0 0 (List.replicate 15 0)).toArray Z131 (by simp [Value.cells]) ?_; intro w2 s2 Ls2 Ss2 b_ g_; have H10 := Aside0.mk g_; have HB2 := Aside0.mk (below_then HB1.out HB1.out.size b_); have H8_2 := Aside0.mk (blk_below H8.out b_); clear b_ g_ HB1 H8) | ((with_reducible refine gate_dst (N := 21) rfl ?_); refine goesV_ (some 21) rfl rfl Tryd.func145 (by kernel_rfl) rfl #[.slice A0 l0.length c0] rfl rfl (by (try simp only [List.map_toArray, List.map_cons, List.map_nil]); first | done | rfl) ?_; refine (impl_getSnap.calls A0 c0 l0 x s p q r _ (Kd.C_below HR0.out HB2.out) HC0.out HL.out HBY.out X1.out X2.out X3.out X4.out X5.out).mono ?_; rintro e_ w3 ⟨rfl, b_⟩; refine ⟨_, rfl, ?_⟩; have HB3 := Aside0.mk (below_then HB2.out HB2.out.size b_); have H8_3 := Aside0.mk (blk_below H8_2.out b_); have H10_3 := Aside0.mk (blk_below H10.out b_); have hz_ := blk_lt H10_3.out; have hy_ := blk_lt H8_3.out; obtain ⟨s3, Ss3⟩ : ∃ s, Aside0 (w3.heap.size = s) := ⟨_, ⟨rfl⟩⟩; rw [Ss3.out] at hz_ hy_; clear b_ H8_2 H10 HB2) | ((with_reducible refine gate_dst (N := 11) rfl ?_); refine hx_alloc rfl 11 rfl 131 rfl Ss3 (.agg (snapC 0 ByteArray.empty 0 0 (List.replicate 15 0)).toArray) (snapC 0 ByteArray.empty 0 0 (List.replicate 15 0)).toArray Z131 (by simp [Value.cells]) ?_; intro w4 s4 Ls4 Ss4 b_ g_; have HG4 := Aside0.mk g_; have HB4 := Aside0.mk (below_then HB3.out HB3.out.size b_); have H8_4 := Aside0.mk (blk_below H8_3.out b_); have H10_4 := Aside0.mk (blk_below H10_3.out b_); clear b_ g_ HB3 H8_3 H10_3) | ((with_reducible refine gate_store (t := 131) (p := 11) (v := .tmp 21) rfl ?_); refine hx_store rfl rfl 131 (.tmp 11) (.tmp 21) rfl s3 19 rfl (snapC x s p q r).toArray rfl (by kernel_rfl) (snapC_size NR.out) (snapC_one _ _ _ _ _) HG4.out snapZ_size ?_; intro w5 t_ gg_; have HG5 := Aside0.mk gg_; have H8_5 := Aside0.mk (t_.keep (show s0 ≠ s3 by omega) H8_4.out); have H10_5 := Aside0.mk (t_.keep (show s1 ≠ s3 by omega) H10_4.out); have HB5 := Aside0.mk (t_.below HB4.out (by omega)); clear t_ gg_ HG4 HB4 H8_4 H10_4) | ((with_reducible refine gate_dst (N := 24) rfl ?_); refine hx_load rfl 131 (.tmp 11) rfl s3 19 rfl Tryd.underlying131 rfl (by kernel_rfl) HG5.out (snapC_size NR.out) ?_) | ((with_reducible refine gate_dst (N := 25) rfl ?_); refine goesV_ (some 25) rfl rfl Tryd.func146 (by kernel_rfl) rfl #[.agg (snapC x s p q r).toArray] rfl rfl (by (try simp only [List.map_toArray, List.map_cons, List.map_nil]); first | done | rfl) ?_; refine (impl_EncodeSnap.calls x s p q r NR.out k c HCKs.out HCZs.out rb 0 _ (Kd.C_below HV.out HB5.out) ER.out).mono ?_; rintro e_ w6 ⟨v0_, rfl, R_, b_⟩; obtain ⟨Ab, cb, rfl⟩ := Kd.R_slice R_; refine ⟨_, rfl, ?_⟩; have HG6 := Aside0.mk (blk_below HG5.out b_); have H8_6 := Aside0.mk (blk_below H8_5.out b_); have H10_6 := Aside0.mk (blk_below H10_5.out b_); have HB6 := Aside0.mk (below_then HB5.out HB5.out.size b_); have RR := Aside0.mk (Kd.R_reads' R_); clear b_ R_ HG5 H8_5 H10_5 HB5) | (go_at_call 164; (with_reducible refine (bytes_Equal.calls Ab cb rb A0 c0 l0 true _ RR.out.2.2 RR.out.2.1 (Kd.C_below HR0.out HB6.out) HC0.out EQ.out).mono ?_); rintro e_ w7 ⟨rfl, d_⟩; have b_ := kept_drawn d_; have HG7 := Aside0.mk (blk_below HG6.out b_); have H8_7 := Aside0.mk (blk_below H8_6.out b_); have H10_7 := Aside0.mk (blk_below H10_6.out b_); have HB7 := Aside0.mk (below_then HB6.out HB6.out.size b_); clear b_ d_ HG6 H8_6 H10_6 HB6) | ((with_reducible refine gate_dst (N := 37) rfl ?_); refine hx_load rfl 131 (.tmp 11) rfl s3 19 rfl Tryd.underlying131 rfl (by kernel_rfl) HG7.out (snapC_size NR.out) ?_) | ((with_reducible refine gate_store (t := 131) (p := 8) (v := .tmp 37) rfl ?_); refine hx_store rfl rfl 131 (.tmp 8) (.tmp 37) rfl s0 19 rfl (snapC x s p q r).toArray rfl (by kernel_rfl) (snapC_size NR.out) (snapC_one _ _ _ _ _) H8_7.out snapZ_size ?_; intro we t_ gg_; have HE := Aside0.mk gg_; have HEB := Aside0.mk (t_.below HB7.out (by omega)); clear t_ gg_ H8_7 HB7 ))
  exact bodyPost_ret (results_ct rfl _ _ s0 131 (snapC x s p q r).toArray (0, 0) _ rfl HE.out Tryd.underlying131 rfl (by rw [snapC_size NR.out]; kernel_rfl)) rfl ⟨rfl, HEB.out⟩
open Go.Proofs.YtknlpjoidjgciaaDoorW Go.Proofs.YtknlpjoidjgciaaDoorW.PrintHand Go.Proofs.YtknlpjoidjgciaaDoorW.PrintHx
open Go.Proofs.YtknlpjoidjgciaaDoorW.PrintLe Go.Proofs.YtknlpjoidjgciaaDoorW.PrintGrow Go.Proofs.YtknlpjoidjgciaaDoorW.PrintDec Go.Proofs.YtknlpjoidjgciaaDoorW.PrintIno Go.Proofs.YtknlpjoidjgciaaDoorW.PrintTab2 Go.Proofs.YtknlpjoidjgciaaDoorW.PrintTab3 Go.Proofs.YtknlpjoidjgciaaDoorW.PrintFsi Go.Proofs.YtknlpjoidjgciaaDoorW.PrintFsb Go.Proofs.YtknlpjoidjgciaaDoorW.PrintFsd Go.Proofs.YtknlpjoidjgciaaDoorW.PrintCrc Go.Proofs.YtknlpjoidjgciaaDoorW.PrintSnp Go.Proofs.YtknlpjoidjgciaaDoorW.PrintSnd
set_option maxHeartbeats 8000000 in
set_option maxRecDepth 100000 in
theorem impl_DecodeSnap.calls (A0 : Option Addr) (c0 : Nat) (l0 : List Int) (k : Nat) (c : Int) (hck : impl_CheckName.f k (nameS l0) = some c) (hcz : c = 0 → (nameS l0).size ≤ 26) (x1 : Int) (s1 : ByteArray) (p1 q1 : Int) (r1 : List Int) (k1 : Int) (w : World) (hv : Kd.C (Kd.int .u8) w (some ⟨2, 0, none⟩) 8 magicS) (hr0 : Kd.C (Kd.int .u8) w A0 l0.length l0) (hc0 : l0.length ≤ c0) (hby : ∀ x ∈ l0, 0 ≤ x ∧ x ≤ 255) (h : snapB c l0 = (x1, s1, p1, q1, r1, k1)) :
    Calls Tryd.prog 112 #[.slice A0 l0.length c0] w fun e w' => e = .returned (.tuple #[.agg (snapC x1 s1 p1 q1 r1).toArray, .int .i64 k1]) ∧ Below w.heap.size w w' := by
  have NR := Aside0.mk (show r1.length = 15 from decS_root (rootOf_length _ _) h)
  have HD := Aside0.mk h
  have HV := Aside0.mk hv
  have HBY := Aside0.mk hby
  have HR0 := Aside0.mk hr0
  have HC0 := Aside0.mk hc0
  have HCK := Aside0.mk hck
  have HCZ := Aside0.mk hcz
  clear hv hby hr0 hc0 hck hcz h
  have Z131 : ∀ w, (zeroValue 131).run Tryd.prog w = .ok (.agg (snapC 0 ByteArray.empty 0 0 (List.replicate 15 0)).toArray) w := fun _ => by kernel_rfl
  have HB0 : Aside0 (Below w.heap.size w w) := ⟨Below.refl _ _⟩
  obtain ⟨s0, Sz0⟩ : ∃ s0, Aside0 (w.heap.size = s0) := ⟨_, ⟨rfl⟩⟩
  have hw0 : w.heap.size ≤ s0 := Nat.le_of_eq Sz0.out
  have hw1 : s0 ≤ w.heap.size := Nat.le_of_eq Sz0.out.symm
  go_enter Tryd.func112, Tryd.ntmps112
  go_wp2_with (first | ((with_reducible refine gate_dst (N := 2) rfl ?_); refine hx_alloc rfl 2 rfl 131 rfl Sz0 (.agg (snapC 0 ByteArray.empty 0 0 (List.replicate 15 0)).toArray) (snapC 0 ByteArray.empty 0 0 (List.replicate 15 0)).toArray Z131 (by simp [Value.cells]) ?_; intro w1 z1 Lz1 Sz1 b_ g_; have H2 := Aside0.mk g_; have HB1 := Aside0.mk (below_then HB0.out HB0.out.size b_); clear b_ g_ HB0) | ((with_reducible refine gate_dst (N := 5) rfl ?_); refine goesL_ (some 5) rfl rfl Tryd.func144 (by kernel_rfl) rfl #[.slice A0 l0.length c0, .int .i64 512, .func (.func 145) #[] #[], .func (.func 146) #[] #[]] rfl (by (try simp only [List.map_toArray, List.map_cons, List.map_nil]); first | done | rfl) ?_; refine (impl_Snap.calls A0 c0 l0 k c HCK.out HCZ.out x1 s1 p1 q1 r1 k1 _ (Kd.C_below HV.out HB1.out) (Kd.C_below HR0.out HB1.out) HC0.out HBY.out HD.out).mono ?_; rintro e_ w2 ⟨rfl, b_⟩; refine ⟨_, rfl, ?_⟩; have HB2 := Aside0.mk (below_then HB1.out HB1.out.size b_); have H2_2 := Aside0.mk (blk_below H2.out b_); clear b_ H2 HB1) | ((with_reducible refine gate_store (t := 131) (p := 2) (v := .tmp 6) rfl ?_); refine hx_store rfl rfl 131 (.tmp 2) (.tmp 6) rfl s0 19 rfl (snapC x1 s1 p1 q1 r1).toArray rfl (by kernel_rfl) (snapC_size NR.out) (snapC_one _ _ _ _ _) H2_2.out snapZ_size ?_; intro we t_ gg_; have HE := Aside0.mk gg_; have HEB := Aside0.mk (t_.below HB2.out (by omega)); clear t_ gg_ H2_2 HB2 ))
  exact bodyPost_ret (results_ct rfl _ _ s0 131 (snapC x1 s1 p1 q1 r1).toArray (0, 0) _ rfl HE.out Tryd.underlying131 rfl (by rw [snapC_size NR.out]; kernel_rfl)) rfl ⟨rfl, HEB.out⟩
open Go.Proofs.YtknlpjoidjgciaaDoorW Go.Proofs.YtknlpjoidjgciaaDoorW.PrintHand Go.Proofs.YtknlpjoidjgciaaDoorW.PrintHx
def laws_eqIntA12.f (a0 a1 : List Int) : Option Bool := if a0 = a1 then some true else none
set_option maxHeartbeats 4000000 in
theorem laws_eqIntA12.calls (a0 : List Int) (n0 : a0.length = 12) (a1 : List Int) (n1 : a1.length = 12) (r : Bool) (w : World) (h : laws_eqIntA12.f a0 a1 = some r) :
    Calls Tryd.prog 147 #[.agg (nums .i64 a0).toArray, .agg (nums .i64 a1).toArray] w fun e w' => e = .returned (.bool r) ∧ Below w.heap.size w w' := by
  unfold laws_eqIntA12.f at h
  by_cases he : a0 = a1
  case neg => rw [if_neg he] at h; cases h
  rw [if_pos he] at h
  obtain rfl := Option.some.inj h
  subst he
  have N_ := Aside0.mk n0
  clear n0 n1 h
  have HB0 : Aside0 (Below w.heap.size w w) := ⟨Below.refl _ _⟩
  obtain ⟨s0, Sz0⟩ : ∃ s0, Aside0 (w.heap.size = s0) := ⟨_, ⟨rfl⟩⟩
  go_enter Tryd.func147, Tryd.ntmps147
  go_wp2_with (first | ((with_reducible refine gate_dst (N := 2) rfl ?_); refine hx_box rfl 2 rfl 122 (.tmp 0) rfl Sz0 (.agg (nums .i64 a0).toArray) (nums .i64 a0).toArray rfl rfl ?_; intro w1 s1 L1 Sz1 b1 g_; have H0 := Aside0.mk g_; have HB1 := Aside0.mk (below_then HB0.out HB0.out.size b1); clear g_ HB0 b1) | ((with_reducible refine gate_dst (N := 3) rfl ?_); refine hx_box rfl 3 rfl 122 (.tmp 1) rfl Sz1 (.agg (nums .i64 a0).toArray) (nums .i64 a0).toArray rfl rfl ?_; intro w2 s2 L2 Sz2 b2 g_; have H1 := Aside0.mk g_; have H0 := Aside0.mk (blk_below H0.out b2); have HB2 := Aside0.mk (below_then HB1.out HB1.out.size b2); clear g_ HB1 b2))
  (try simp only [Act.put, List.setIfInBounds_toArray, List.set_cons_succ, List.set_cons_zero])
  go_loopw [5] (fun i wr => ∃ k : Nat, k ≤ 12 ∧ i = .int .i64 (k : Int) ∧ Aside0 (Below w.heap.size w wr) ∧ Aside0 (wr.heap[s0]? = some (.cells (nums .i64 a0).toArray 122 (0, 0))) ∧ Aside0 (wr.heap[s1]? = some (.cells (nums .i64 a0).toArray 122 (0, 0)))) (fun i _ => 12 - (intOf i).toNat)
  case atStart => exact ⟨0, by omega, rfl, HB2, H0, H1⟩
  case round =>
    obtain ⟨k, hk, rfl, hB, h0, h1⟩ := hrel
    by_cases hlt : k < 12
    · have c0 := row_cell h0.out k (by rw [N_.out]; exact hlt)
      have c1 := row_cell h1.out k (by rw [N_.out]; exact hlt)
      have hn : (a0.getD k 0 != a0.getD k 0) = false := by simp
      go_wp2
      go_quiet (fail)
      go_wp2
      go_roundw
      case rel => exact ⟨k + 1, by omega, by go_num, ⟨pw_below_drewN hB.out _⟩, ⟨blk_drewN h0.out _⟩, ⟨blk_drewN h1.out _⟩⟩
      case measure => simp [intOf]; omega
    · obtain rfl : k = 12 := by omega
      go_wp2
      go_ret
      exact ⟨rfl, hB.out⟩
open Go.Proofs.YtknlpjoidjgciaaDoorW Go.Proofs.YtknlpjoidjgciaaDoorW.PrintHand Go.Proofs.YtknlpjoidjgciaaDoorW.PrintHx
def laws_eqRoot.f (a0 a1 : List Int) : Option Bool := if a0 = a1 then some true else none
set_option maxHeartbeats 8000000 in
set_option maxRecDepth 100000 in
theorem laws_eqRoot.calls (a0 : List Int) (n0 : a0.length = 15) (a1 : List Int) (n1 : a1.length = 15) (r : Bool) (w : World) (h : laws_eqRoot.f a0 a1 = some r) :
    Calls Tryd.prog 113 #[.agg (nums .i64 a0).toArray, .agg (nums .i64 a1).toArray] w fun e w' => e = .returned (.bool r) ∧ Below w.heap.size w w' := by
  unfold laws_eqRoot.f at h
  by_cases he : a0 = a1
  case neg => rw [if_neg he] at h; cases h
  rw [if_pos he] at h
  obtain rfl := Option.some.inj h
  subst he
  have N_ := Aside0.mk n0
  clear n0 n1 h
  have HB0 : Aside0 (Below w.heap.size w w) := ⟨Below.refl _ _⟩
  obtain ⟨s0, Sz0⟩ : ∃ s0, Aside0 (w.heap.size = s0) := ⟨_, ⟨rfl⟩⟩
  have hw0 : w.heap.size ≤ s0 := Nat.le_of_eq Sz0.out
  have hw1 : s0 ≤ w.heap.size := Nat.le_of_eq Sz0.out.symm
  go_enter Tryd.func113, Tryd.ntmps113
  go_wp2_with (first | ((with_reducible refine gate_dst (N := 2) rfl ?_); refine hx_box rfl 2 rfl 124 (.tmp 0) rfl Sz0 (.agg (nums .i64 a0).toArray) (nums .i64 a0).toArray rfl rfl ?_; intro w1 s1 L1 Sz1 b1 g_; have H2_1 := Aside0.mk g_; clear g_; have K0 := kept_below b1; have HB1 := Aside0.mk (below_then HB0.out HB0.out.size b1); clear b1; clear K0 HB0) | ((with_reducible refine gate_dst (N := 3) rfl ?_); refine hx_box rfl 3 rfl 124 (.tmp 1) rfl Sz1 (.agg (nums .i64 a0).toArray) (nums .i64 a0).toArray rfl rfl ?_; intro w2 s2 L2 Sz2 b2 g_; have H3_2 := Aside0.mk g_; clear g_; have K1 := kept_below b2; have HB2 := Aside0.mk (below_then HB1.out HB1.out.size b2); have H2_2 := Aside0.mk (blk_kept H2_1.out K1 (fun h_ => h_)); clear b2; clear K1 HB1 H2_1) | ((with_reducible refine gate_dst (N := 6) rfl ?_); refine hx_loadf rfl 3 (.tmp 5) rfl s0 0 rfl Tryd.underlying3 rfl H2_2.out (lt_len (n := 15) N_.out (by decide)) ?_) | ((with_reducible refine gate_dst (N := 8) rfl ?_); refine hx_loadf rfl 3 (.tmp 7) rfl s1 0 rfl Tryd.underlying3 rfl H3_2.out (lt_len (n := 15) N_.out (by decide)) ?_) | ((with_reducible refine gate_dst (N := 11) rfl ?_); refine hx_loadp rfl 122 (.tmp 10) rfl s0 1 12 rfl Tryd.underlying122 rfl (by kernel_rfl) H2_2.out (le_len (n := 15) N_.out (by decide)) ?_) | ((with_reducible refine gate_dst (N := 13) rfl ?_); refine hx_loadp rfl 122 (.tmp 12) rfl s1 1 12 rfl Tryd.underlying122 rfl (by kernel_rfl) H3_2.out (le_len (n := 15) N_.out (by decide)) ?_) | ((with_reducible refine gate_dst (N := 14) rfl ?_); refine goesL_ (some 14) rfl rfl Tryd.func147 (by kernel_rfl) rfl #[.agg (nums .i64 (seg a0 1 12)).toArray, .agg (nums .i64 (seg a0 1 12)).toArray] rfl (by (try simp only [List.map_toArray, List.map_cons, List.map_nil]); first | done | rfl) ?_; refine (laws_eqIntA12.calls _ (part_len (n := 15) N_.out (by decide)) _ (part_len (n := 15) N_.out (by decide)) _ _ (if_pos rfl)).mono ?_; rintro e_ w3 ⟨rfl, b3⟩; refine ⟨_, rfl, ?_⟩; obtain ⟨s3, L3, Sz3⟩ := size_letter Sz2 (kept_below b3); have K2 := kept_below b3; have HB3 := Aside0.mk (below_then HB2.out HB2.out.size b3); have H2_3 := Aside0.mk (blk_kept H2_2.out K2 (fun h_ => h_)); have H3_3 := Aside0.mk (blk_kept H3_2.out K2 (fun h_ => h_)); clear b3; clear K2 HB2 H2_2 H3_2) | ((with_reducible refine gate_dst (N := 17) rfl ?_); refine hx_loadf rfl 3 (.tmp 16) rfl s0 13 rfl Tryd.underlying3 rfl H2_3.out (lt_len (n := 15) N_.out (by decide)) ?_) | ((with_reducible refine gate_dst (N := 19) rfl ?_); refine hx_loadf rfl 3 (.tmp 18) rfl s1 13 rfl Tryd.underlying3 rfl H3_3.out (lt_len (n := 15) N_.out (by decide)) ?_) | ((with_reducible refine gate_dst (N := 22) rfl ?_); refine hx_loadf rfl 3 (.tmp 21) rfl s0 14 rfl Tryd.underlying3 rfl H2_3.out (lt_len (n := 15) N_.out (by decide)) ?_) | ((with_reducible refine gate_dst (N := 24) rfl ?_); refine hx_loadf rfl 3 (.tmp 23) rfl s1 14 rfl Tryd.underlying3 rfl H3_3.out (lt_len (n := 15) N_.out (by decide)) ?_))
  go_ret
  exact ⟨rfl, HB3.out⟩
open Go.Proofs.YtknlpjoidjgciaaDoorW Go.Proofs.YtknlpjoidjgciaaDoorW.PrintHand Go.Proofs.YtknlpjoidjgciaaDoorW.PrintHx
open Go.Proofs.YtknlpjoidjgciaaDoorW.PrintLe Go.Proofs.YtknlpjoidjgciaaDoorW.PrintGrow Go.Proofs.YtknlpjoidjgciaaDoorW.PrintDec Go.Proofs.YtknlpjoidjgciaaDoorW.PrintIno Go.Proofs.YtknlpjoidjgciaaDoorW.PrintTab2 Go.Proofs.YtknlpjoidjgciaaDoorW.PrintTab3 Go.Proofs.YtknlpjoidjgciaaDoorW.PrintFsi Go.Proofs.YtknlpjoidjgciaaDoorW.PrintFsb Go.Proofs.YtknlpjoidjgciaaDoorW.PrintFsd Go.Proofs.YtknlpjoidjgciaaDoorW.PrintCrc Go.Proofs.YtknlpjoidjgciaaDoorW.PrintSnp Go.Proofs.YtknlpjoidjgciaaDoorW.PrintSnd
set_option maxHeartbeats 8000000 in
set_option maxRecDepth 100000 in
theorem laws_eqSnap.calls (x : Int) (s : ByteArray) (p q : Int) (r : List Int) (nr : r.length = 15) (w : World) :
    Calls Tryd.prog 83 #[.agg (snapC x s p q r).toArray, .agg (snapC x s p q r).toArray] w fun e w' => e = .returned (.bool true) ∧ Below w.heap.size w w' := by
  have NR := Aside0.mk nr
  clear nr
  have HB0 : Aside0 (Below w.heap.size w w) := ⟨Below.refl _ _⟩
  obtain ⟨s0, Sz0⟩ : ∃ s0, Aside0 (w.heap.size = s0) := ⟨_, ⟨rfl⟩⟩
  have hw0 : w.heap.size ≤ s0 := Nat.le_of_eq Sz0.out
  have hw1 : s0 ≤ w.heap.size := Nat.le_of_eq Sz0.out.symm
  go_enter Tryd.func83, Tryd.ntmps83
  go_wp2_with (first | ((with_reducible refine gate_dst (N := 2) rfl ?_); refine hx_box rfl 2 rfl 131 (.tmp 0) rfl Sz0 (.agg (snapC x s p q r).toArray) (snapC x s p q r).toArray rfl (by simp [Value.cells]) ?_; intro w1 z1 Lz1 Sz1_ b1_ g_; have HA := Aside0.mk g_; have HB1 := Aside0.mk (below_then HB0.out HB0.out.size b1_); clear g_ HB0 b1_) | ((with_reducible refine gate_dst (N := 3) rfl ?_); refine hx_box rfl 3 rfl 131 (.tmp 1) rfl Sz1_ (.agg (snapC x s p q r).toArray) (snapC x s p q r).toArray rfl (by simp [Value.cells]) ?_; intro w2 z2 Lz2 Sz2_ b1_ g_; have HC := Aside0.mk g_; have HB2 := Aside0.mk (below_then HB1.out HB1.out.size b1_); have HA2 := Aside0.mk (blk_below HA.out b1_); clear HA; clear g_ HB1 b1_) | ((with_reducible refine gate_dst (N := 6) rfl ?_); refine wpList_ld1 rfl 3 (.tmp 5) rfl s0 0 rfl (.int .i64 x) Tryd.underlying3 rfl HA2.out rfl ?_) | ((with_reducible refine gate_dst (N := 8) rfl ?_); refine wpList_ld1 rfl 3 (.tmp 7) rfl z1 0 rfl (.int .i64 x) Tryd.underlying3 rfl HC.out rfl ?_) | ((with_reducible refine gate_dst (N := 11) rfl ?_); refine wpList_ld1 rfl 9 (.tmp 10) rfl s0 1 rfl (.string s) Tryd.underlying9 rfl HA2.out rfl ?_) | ((with_reducible refine gate_dst (N := 13) rfl ?_); refine wpList_ld1 rfl 9 (.tmp 12) rfl z1 1 rfl (.string s) Tryd.underlying9 rfl HC.out rfl ?_) | ((with_reducible refine gate_dst (N := 16) rfl ?_); refine wpList_ld1 rfl 3 (.tmp 15) rfl s0 2 rfl (.int .i64 p) Tryd.underlying3 rfl HA2.out rfl ?_) | ((with_reducible refine gate_dst (N := 18) rfl ?_); refine wpList_ld1 rfl 3 (.tmp 17) rfl z1 2 rfl (.int .i64 p) Tryd.underlying3 rfl HC.out rfl ?_) | ((with_reducible refine gate_dst (N := 21) rfl ?_); refine wpList_ld1 rfl 3 (.tmp 20) rfl s0 3 rfl (.int .i64 q) Tryd.underlying3 rfl HA2.out rfl ?_) | ((with_reducible refine gate_dst (N := 23) rfl ?_); refine wpList_ld1 rfl 3 (.tmp 22) rfl z1 3 rfl (.int .i64 q) Tryd.underlying3 rfl HC.out rfl ?_) | ((with_reducible refine gate_dst (N := 26) rfl ?_); refine wpList_ld rfl 124 (.tmp 25) rfl s0 4 15 rfl (nums .i64 r).toArray Tryd.underlying124 rfl (by kernel_rfl) HA2.out (by rw [snapC_size NR.out]; decide) (snapC_root NR.out) ?_) | ((with_reducible refine gate_dst (N := 28) rfl ?_); refine wpList_ld rfl 124 (.tmp 27) rfl z1 4 15 rfl (nums .i64 r).toArray Tryd.underlying124 rfl (by kernel_rfl) HC.out (by rw [snapC_size NR.out]; decide) (snapC_root NR.out) ?_) | ((with_reducible refine gate_dst (N := 29) rfl ?_); refine goesL_ (some 29) rfl rfl Tryd.func113 (by kernel_rfl) rfl #[.agg (nums .i64 r).toArray, .agg (nums .i64 r).toArray] rfl (by (try simp only [List.map_toArray, List.map_cons, List.map_nil]); first | done | rfl) ?_; refine (laws_eqRoot.calls _ NR.out _ NR.out _ _ (if_pos rfl)).mono ?_; rintro e_ w3 ⟨rfl, b_⟩; refine ⟨_, rfl, ?_⟩; have HB3 := Aside0.mk (below_then HB2.out HB2.out.size b_); clear b_ HB2))
  go_ret
  exact ⟨rfl, HB3.out⟩
def laws_markText.l0 : Nat → Int → ByteArray → Option (ByteArray)
  | 0, _, _ => none
  | k + 1, x0, x3 => if x0 > 0 then ((some (([(wrap64 (48 + (Int.tmod x0 10))) % 256] : List Int) : List Int)).bind fun y160 => (if (strOfNums y160).size + x3.size ≤ 9223372036854775807 then (laws_markText.l0 k (wrap64 (Int.tdiv x0 10)) ((strOfNums y160) ++ x3)) else (none))) else (if 1 + x3.size ≤ 9223372036854775807 then (some ((⟨#[109]⟩ : ByteArray) ++ x3)) else (none))
def laws_markText.f (k : Nat) (a0 : Int) : Option (ByteArray) := if a0 ≤ 0 then (some (⟨#[109, 48]⟩ : ByteArray)) else (laws_markText.l0 k a0 (⟨#[]⟩ : ByteArray))
theorem laws_markText.mono_l : ∀ k, (∀ y0 y1, LeO (laws_markText.l0 k y0 y1) (laws_markText.l0 (k + 1) y0 y1))
  | 0 => fun _ _ r h => by simp [laws_markText.l0] at h
  | k + 1 => by
    have ih0 := laws_markText.mono_l k
    · intro y0 y1
      unfold laws_markText.l0
      repeat' first
      | (with_reducible exact ih0 _ _)
      | (with_reducible exact LeO.refl _)
      | (with_reducible exact LeO.none _)
      | (with_reducible refine LeO.ite ?_ ?_)
      | (with_reducible refine LeO.bind ?_ (fun _ => ?_))
      | exact ih0 _ _
      | exact LeO.none _
      | refine LeO.ite ?_ ?_
      | refine LeO.bind ?_ (fun _ => ?_)
theorem laws_markText.mono : ∀ a0 k, LeO (laws_markText.f k a0) (laws_markText.f (k + 1) a0) := by
  intro a0 k
  have ih0 := laws_markText.mono_l k
  unfold laws_markText.f
  repeat' first
      | (with_reducible exact ih0 _ _)
      | (with_reducible exact LeO.refl _)
      | (with_reducible exact LeO.none _)
      | (with_reducible refine LeO.ite ?_ ?_)
      | (with_reducible refine LeO.bind ?_ (fun _ => ?_))
      | exact ih0 _ _
      | exact LeO.none _
      | refine LeO.ite ?_ ?_
      | refine LeO.bind ?_ (fun _ => ?_)
set_option maxHeartbeats 8000000 in
set_option maxRecDepth 100000 in
theorem laws_markText.calls (k : Nat) (a0 : Int) (r : ByteArray) (w : World) (h : laws_markText.f k a0 = some r) :
    Calls Tryd.prog 60 #[.int .i64 a0] w fun e w' => e = .returned (.string r) ∧ Below w.heap.size w w' := by
  have HB := Aside0.mk (Below.refl w.heap.size w)
  have H : (if a0 ≤ 0 then (some (⟨#[109, 48]⟩ : ByteArray)) else (laws_markText.l0 k a0 (⟨#[]⟩ : ByteArray))) = some r := h
  clear h
  by_cases c2 : a0 ≤ 0
  · rw [if_pos c2] at H
    have c2b0 : decide (a0 ≤ 0) = true := decide_eq_true c2
    clear c2
    obtain rfl := Option.some.inj H
    go_enter Tryd.func60, Tryd.ntmps60
    go_wp2
    go_ret
    exact ⟨by first | rfl | (simp [errW_none, errW_some] <;> rfl) | (simp [*, errW_none, errW_some] <;> rfl), by repeat (first | (with_reducible first | exact HB.out | apply below_alloc | apply pw_below_drewN | apply below_drew1) | exact HB.out)⟩
  · rw [if_neg c2] at H
    have c2b0 : decide (a0 ≤ 0) = false := decide_eq_false c2
    clear c2
    have H' := Aside0.mk H
    clear H
    go_enter Tryd.func60, Tryd.ntmps60
    go_wp2
    go_loopg [0, 3] k (fun kq v0 v3 w' => ∃ (x0_1 : Int) (x3_1 : ByteArray), v0 = .int .i64 x0_1 ∧ v3 = .string x3_1 ∧ Aside0 (laws_markText.l0 kq x0_1 x3_1 = some r) ∧ Aside0 (kq ≤ k) ∧ Aside0 (Below w.heap.size w w'))
    case atStart => exact ⟨(a0), ((⟨#[]⟩ : ByteArray)), (by first | rfl | (simp; done) | (simp [*]; done)), (by first | rfl | (simp; done) | (simp [*]; done)), H', ⟨Nat.le_refl _⟩, ⟨by repeat (first | (with_reducible first | exact HB.out | apply below_alloc | apply pw_below_drewN | apply below_drew1) | exact HB.out)⟩⟩
    case round =>
      clear H'
      try clear c2
      try clear c2b0
      try clear p2
      obtain ⟨x0_1, x3_1, rfl, rfl, HA, HK1, HB⟩ := hrel
      cases gk with
      | zero => exact absurd HA.out (by simp [laws_markText.l0])
      | succ k1 =>
        have H := HA.out
        clear HA
        simp only [laws_markText.l0] at H
        by_cases c3 : x0_1 > 0
        · rw [if_pos c3] at H
          have c3b0 : decide (0 < x0_1) = true := decide_eq_true c3
          clear c3
          obtain ⟨y160, hy160⟩ : ∃ y_ : List Int, y_ = (([(wrap64 (48 + (Int.tmod x0_1 10))) % 256] : List Int)) := ⟨_, rfl⟩
          replace H : (if (strOfNums y160).size + x3_1.size ≤ 9223372036854775807 then (laws_markText.l0 k1 (wrap64 (Int.tdiv x0_1 10)) ((strOfNums y160) ++ x3_1)) else (none)) = some r := by first | (rw [hy160]; with_reducible exact H) | (have H2_ := (Option.bind_some _ _).symm.trans H; rw [hy160]; with_reducible exact H2_) | (have H2_ := (Option.bind_some _ _).symm.trans H; with_reducible exact H2_) | with_reducible exact H | (rw [hy160]; exact H) | exact H
          have Ny160 := Aside0.mk hy160
          clear hy160
          by_cases c4 : (strOfNums y160).size + x3_1.size ≤ 9223372036854775807
          · rw [if_pos c4] at H
            have c4b0 := eq_true c4
            have c4b1 : decide ((strOfNums y160).size + x3_1.size ≤ 9223372036854775807) = true := decide_eq_true c4
            try have c4b2 : (9223372036854775807 < (strOfNums y160).size + x3_1.size) = False := eq_false (Nat.not_lt.2 c4)
            have H' := Aside0.mk H
            clear H
            go_wp2_with (first | ((with_reducible refine gate_dst (N := 12) rfl ?_); refine Kd.R_lit (Kd.int .u8) _ 5 ?hg (N := 12) ?hd (xs := ([(wrap64 (48 + (Int.tmod x0_1 10))) % 256] : List Int)) (inner := [.int .u8 ((wrap64 (48 + (Int.tmod x0_1 10))) % 256)]) (ok := fun _ => True) (okp := fun _ => True) ?hr ?hp (fun _ hk => hk) trivial (Below.refl _ _) (Nat.le_refl _) (by simp) ?_; (case hd => rfl); (case hg => rfl); (case hr => first | (go_simp; done) | (go_simp; rfl)); (case hp => exact (Reps.one (show Kd.M (Kd.int .u8) _ _ _ ((wrap64 (48 + (Int.tmod x0_1 10))) % 256) [.int .u8 ((wrap64 (48 + (Int.tmod x0_1 10))) % 256)] from rfl) (Reps.none _ _))); intro v161 w5 ho6 hb hg_ hnew_; clear hg_ hnew_; (first | rw [← Ny160.out] at ho6 | (simp only [Int.reduceToNat] at ho6; rw [← Ny160.out] at ho6)); have n0_ := Aside0.mk (Kd.R_lower ho6 (below_size (by repeat (first | (with_reducible first | exact HB.out | apply below_alloc | apply pw_below_drewN | apply below_drew1) | exact HB.out)))); have n1_ := Aside0.mk (below_step (by repeat (first | (with_reducible first | exact HB.out | apply below_alloc | apply pw_below_drewN | apply below_drew1) | exact HB.out)) hb); clear HB; have HO162 := n0_; have HB := n1_; clear n0_ n1_; clear hb ho6; have hcv7 := own_string (P := Tryd.prog) Tryd.underlying22 Tryd.underlying5 Tryd.underlying9 (Kd.own_of_R HO162.out)))
            go_roundg k1
            case measure => have := HK1.out; omega
            case rel => exact ⟨(wrap64 (Int.tdiv x0_1 10)), ((strOfNums y160) ++ x3_1), (by first | rfl | (simp; done) | (simp [*]; done)), (by first | rfl | (simp; done) | (simp [*]; done)), H', ⟨by have := HK1.out; omega⟩, ⟨by repeat (first | (with_reducible first | exact HB.out | apply below_alloc | apply pw_below_drewN | apply below_drew1) | exact HB.out)⟩⟩
          · rw [if_neg c4] at H
            exact absurd H (by simp)
        · rw [if_neg c3] at H
          have c3b0 : decide (0 < x0_1) = false := decide_eq_false c3
          clear c3
          by_cases c8 : 1 + x3_1.size ≤ 9223372036854775807
          · rw [if_pos c8] at H
            have c8b0 := eq_true c8
            have c8b1 : decide (1 + x3_1.size ≤ 9223372036854775807) = true := decide_eq_true c8
            try have c8b2 : (9223372036854775807 < 1 + x3_1.size) = False := eq_false (Nat.not_lt.2 c8)
            obtain rfl := Option.some.inj H
            go_wp2
            go_ret
            exact ⟨by first | rfl | (simp [errW_none, errW_some] <;> rfl) | (simp [*, errW_none, errW_some] <;> rfl), by repeat (first | (with_reducible first | exact HB.out | apply below_alloc | apply pw_below_drewN | apply below_drew1) | exact HB.out)⟩
          · rw [if_neg c8] at H
            exact absurd H (by simp)
end Go.Proofs.YtknlpjoidjgciaaDoor.PFnExactSnapshots
