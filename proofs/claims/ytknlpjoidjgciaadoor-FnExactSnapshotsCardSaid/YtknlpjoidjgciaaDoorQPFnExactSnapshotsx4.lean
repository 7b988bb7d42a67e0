/- PFnExactSnapshotsx4: functions of the law, walked; written by a program of this session. No condition. -/
import Derived.Test.YtknlpjoidjgciaaDoorQPFnExactSnapshotsx0
import Derived.Test.YtknlpjoidjgciaaDoorQPFnExactSnapshotsx3
namespace Go.Proofs.YtknlpjoidjgciaaDoor.PFnExactSnapshots
open Go.RowKit Go.Proofs.YtknlpjoidjgciaaDoorW.PrintWords Go.Proofs.YtknlpjoidjgciaaDoorW.PrintLast Go.Proofs.YtknlpjoidjgciaaDoorW.PrintMore
attribute [local go_sem] max2_int min2_int max_two min_two max_three min_three max_four min_four
set_option linter.unusedVariables false
set_option linter.unusedSimpArgs false
open Go.Proofs.YtknlpjoidjgciaaDoorW Go.Proofs.YtknlpjoidjgciaaDoorW.PrintHand Go.Proofs.YtknlpjoidjgciaaDoorW.PrintHx
open Go.Proofs.YtknlpjoidjgciaaDoorW.PrintLe Go.Proofs.YtknlpjoidjgciaaDoorW.PrintGrow Go.Proofs.YtknlpjoidjgciaaDoorW.PrintIno Go.Proofs.YtknlpjoidjgciaaDoorW.PrintTab2 Go.Proofs.YtknlpjoidjgciaaDoorW.PrintTab3 Go.Proofs.YtknlpjoidjgciaaDoorW.PrintFsi
def spec_l02Fsinfo.f (a0 : List Int) : Option Bool := some (fsGood a0)
theorem spec_l02Fsinfo.win (x lo hi : Int) : spec_l02Within.f x lo hi = some (rng x lo hi) := within_i x lo hi
theorem spec_l02Fsinfo.tsz (x : Int) : spec_l02TableSize.f x = some (sizeI x) := size_i x
set_option maxHeartbeats 8000000 in
set_option maxRecDepth 100000 in
theorem spec_l02Fsinfo.calls (a0 : List Int) (n0 : a0.length = 68) (r : Bool) (w : World) (h : spec_l02Fsinfo.f a0 = some r) :
    Calls Tryd.prog 160 #[.agg (nums .i64 a0).toArray] w fun e w' => e = .returned (.bool r) ∧ Below w.heap.size w w' := by
  have H := Aside0.mk (Option.some.inj h)
  have N_ := Aside0.mk n0
  clear n0 h
  obtain ⟨x0, hx0⟩ : ∃ x, x = a0.getD 0 0 := ⟨_, rfl⟩
  obtain ⟨x1, hx1⟩ : ∃ x, x = a0.getD 1 0 := ⟨_, rfl⟩
  obtain ⟨x2, hx2⟩ : ∃ x, x = a0.getD 2 0 := ⟨_, rfl⟩
  obtain ⟨x3, hx3⟩ : ∃ x, x = a0.getD 3 0 := ⟨_, rfl⟩
  obtain ⟨x4, hx4⟩ : ∃ x, x = a0.getD 4 0 := ⟨_, rfl⟩
  obtain ⟨x5, hx5⟩ : ∃ x, x = a0.getD 5 0 := ⟨_, rfl⟩
  obtain ⟨x6, hx6⟩ : ∃ x, x = a0.getD 6 0 := ⟨_, rfl⟩
  obtain ⟨yi, hyi⟩ : ∃ x, x = a0.getD 7 0 := ⟨_, rfl⟩
  obtain ⟨ym, hym⟩ : ∃ x, x = a0.getD 22 0 := ⟨_, rfl⟩
  obtain ⟨xi, hxi⟩ : ∃ x, x = seg a0 7 15 := ⟨_, rfl⟩
  obtain ⟨xm, hxm⟩ : ∃ x, x = seg a0 22 15 := ⟨_, rfl⟩
  have NXI := Aside0.mk (show xi.length = 15 by rw [hxi]; exact part_len N_.out (by decide))
  have NXM := Aside0.mk (show xm.length = 15 by rw [hxm]; exact part_len N_.out (by decide))
  obtain ⟨pl, hpl⟩ : ∃ p, p = fsPtrs a0 := ⟨_, rfl⟩
  have NPL := Aside0.mk (show pl.length = 59 by rw [hpl]; exact fsPtrs_length N_.out)
  have HPL := Aside0.mk (show pl = (seg xi 1 14 ++ seg xm 1 14) ++ seg a0 37 31 by rw [hpl, hxi, hxm]; rfl)
  obtain ⟨b0, hb0⟩ : ∃ b, b = rng x0 1 1099511627776 := ⟨_, rfl⟩
  have Wb0 := Aside0.mk (show spec_l02Within.f x0 1 1099511627776 = some b0 by rw [hb0]; exact spec_l02Fsinfo.win _ _ _)
  obtain ⟨b1, hb1⟩ : ∃ b, b = rng x3 1 1099511627776 := ⟨_, rfl⟩
  have Wb1 := Aside0.mk (show spec_l02Within.f x3 1 1099511627776 = some b1 by rw [hb1]; exact spec_l02Fsinfo.win _ _ _)
  obtain ⟨b2, hb2⟩ : ∃ b, b = rng x4 0 1099511627776 := ⟨_, rfl⟩
  have Wb2 := Aside0.mk (show spec_l02Within.f x4 0 1099511627776 = some b2 by rw [hb2]; exact spec_l02Fsinfo.win _ _ _)
  obtain ⟨b3, hb3⟩ : ∃ b, b = rng x1 64 2048 := ⟨_, rfl⟩
  have Wb3 := Aside0.mk (show spec_l02Within.f x1 64 2048 = some b3 by rw [hb3]; exact spec_l02Fsinfo.win _ _ _)
  obtain ⟨b4, hb4⟩ : ∃ b, b = rng x2 2 (wrap64 (x1 - 1)) := ⟨_, rfl⟩
  have Wb4 := Aside0.mk (show spec_l02Within.f x2 2 (wrap64 (x1 - 1)) = some b4 by rw [hb4]; exact spec_l02Fsinfo.win _ _ _)
  obtain ⟨b5, hb5⟩ : ∃ b, b = rng x5 0 1000 := ⟨_, rfl⟩
  have Wb5 := Aside0.mk (show spec_l02Within.f x5 0 1000 = some b5 by rw [hb5]; exact spec_l02Fsinfo.win _ _ _)
  obtain ⟨b6, hb6⟩ : ∃ b, b = rng x6 8192 65536 := ⟨_, rfl⟩
  have Wb6 := Aside0.mk (show spec_l02Within.f x6 8192 65536 = some b6 by rw [hb6]; exact spec_l02Fsinfo.win _ _ _)
  obtain ⟨b7, hb7⟩ : ∃ b, b = rootGood xi := ⟨_, rfl⟩
  have Wb7 := Aside0.mk (show spec_l02Root.f xi = some b7 by rw [hb7]; rfl)
  obtain ⟨b8, hb8⟩ : ∃ b, b = rootGood xm := ⟨_, rfl⟩
  have Wb8 := Aside0.mk (show spec_l02Root.f xm = some b8 by rw [hb8]; rfl)
  obtain ⟨b9, hb9⟩ : ∃ b, b = sizeI yi := ⟨_, rfl⟩
  have Wb9 := Aside0.mk (show spec_l02TableSize.f yi = some b9 by rw [hb9]; exact spec_l02Fsinfo.tsz _)
  obtain ⟨bz, hbz⟩ : ∃ b, b = (x6 != 0) := ⟨_, rfl⟩
  obtain ⟨bm, hbm⟩ : ∃ b, b = (ym != wrap64 (4 * x1)) := ⟨_, rfl⟩
  have WZ := Aside0.mk hbz.symm
  have WM := Aside0.mk hbm.symm
  have HR3 := Aside0.mk (show b3 = true → 64 ≤ x1 ∧ x1 ≤ 2048 from fun e_ => rng_of (hb3.symm.trans e_))
  have HIN := Aside0.mk (show fsGood a0 = (b0 && (b1 && (b2 && (b3 && (b4 && (b5 && ((!bz || b6) && (b7 && (b8 && (!bm && (b9 && pl.all (fsPtr x1)))))))))))) by
    rw [hb7, hb8, hpl, ← fsTop_w x0 x1 x2 x3 x4 x5 x6 yi ym (rootGood xi) (rootGood xm) ((fsPtrs a0).all (fsPtr x1)) b0 b1 b2 b3 b4 b5 bz b6 bm b9 hb0.symm hb1.symm hb2.symm hb3.symm hb4.symm hb5.symm hbz.symm hb6.symm hbm.symm hb9.symm, hx0, hx1, hx2, hx3, hx4, hx5, hx6, hyi, hym, hxi, hxm]
    rfl)
  have Xx0 := Aside0.mk hx0
  have Xx1 := Aside0.mk hx1
  have Xx2 := Aside0.mk hx2
  have Xx3 := Aside0.mk hx3
  have Xx4 := Aside0.mk hx4
  have Xx5 := Aside0.mk hx5
  have Xx6 := Aside0.mk hx6
  have Xyi := Aside0.mk hyi
  have Xym := Aside0.mk hym
  have XI := Aside0.mk hxi
  have XM := Aside0.mk hxm
  clear hxi hxm hpl hx0 hx1 hx2 hx3 hx4 hx5 hx6 hyi hym hb0 hb1 hb2 hb3 hb4 hb5 hb6 hb7 hb8 hb9 hbz hbm
  have HB0 : Aside0 (Below w.heap.size w w) := ⟨Below.refl _ _⟩
  obtain ⟨s0, Sz0⟩ : ∃ s0, Aside0 (w.heap.size = s0) := ⟨_, ⟨rfl⟩⟩
  have hw0 : w.heap.size ≤ s0 := Nat.le_of_eq Sz0.out
  have hw1 : s0 ≤ w.heap.size := Nat.le_of_eq Sz0.out.symm
  have HBP := Aside0.mk (show seg xi 1 14 = seg xi 1 14 from rfl)
  clear HBP
  go_enter Tryd.func160, Tryd.ntmps160
  go_wp2_with (first | ((with_reducible refine gate_dst (N := 1) rfl ?_); refine hx_box rfl 1 rfl 127 (.tmp 0) rfl Sz0 (.agg (nums .i64 a0).toArray) (nums .i64 a0).toArray rfl rfl ?_; intro w1 s1 L1 Sz1 b1_ g_; have H1 := Aside0.mk g_; have HB := Aside0.mk (below_then HB0.out HB0.out.size b1_); clear g_ HB0 b1_) | ((with_reducible refine gate_dst (N := 7) rfl ?_); refine hx_loadf rfl 3 (.tmp 6) rfl s0 0 rfl Tryd.underlying3 rfl H1.out (lt_len (n := 68) N_.out (by decide)) ?_; rw [← Xx0.out]) | ((with_reducible refine gate_dst (N := 8) rfl ?_); refine goesL_ (some 8) rfl rfl Tryd.func132 (by kernel_rfl) rfl #[.int .i64 x0, .int .i64 1, .int .i64 1099511627776] rfl (by (try simp only [List.map_toArray, List.map_cons, List.map_nil]); first | done | rfl) ?_; refine (spec_l02Within.calls x0 1 1099511627776 b0 _ Wb0.out).mono ?_; rintro e_ w_ ⟨rfl, d_⟩; have b_ := kept_drawn d_; refine ⟨_, rfl, ?_⟩; have Hn := Aside0.mk (blk_below H1.out b_); have HBn := Aside0.mk (below_then HB.out HB.out.size b_); clear b_ d_ H1 HB; have H1 := Hn; have HB := HBn; clear Hn HBn; cases b0) | ((with_reducible refine gate_dst (N := 12) rfl ?_); refine Go.Proofs.YtknlpjoidjgciaaDoorW.PrintTab2.ungd (by rfl) ?_; refine hx_loadf rfl 3 (.tmp 11) rfl s0 3 rfl Tryd.underlying3 rfl H1.out (lt_len (n := 68) N_.out (by decide)) ?_; rw [← Xx3.out]) | ((with_reducible refine gate_dst (N := 13) rfl ?_); refine Go.Proofs.YtknlpjoidjgciaaDoorW.PrintTab2.ungd (by rfl) ?_; refine goesL_ (some 13) rfl rfl Tryd.func132 (by kernel_rfl) rfl #[.int .i64 x3, .int .i64 1, .int .i64 1099511627776] rfl (by (try simp only [List.map_toArray, List.map_cons, List.map_nil]); first | done | rfl) ?_; refine (spec_l02Within.calls x3 1 1099511627776 b1 _ Wb1.out).mono ?_; rintro e_ w_ ⟨rfl, d_⟩; have b_ := kept_drawn d_; refine ⟨_, rfl, ?_⟩; have Hn := Aside0.mk (blk_below H1.out b_); have HBn := Aside0.mk (below_then HB.out HB.out.size b_); clear b_ d_ H1 HB; have H1 := Hn; have HB := HBn; clear Hn HBn; cases b1) | ((with_reducible refine gate_dst (N := 18) rfl ?_); refine Go.Proofs.YtknlpjoidjgciaaDoorW.PrintTab2.ungd (by rfl) ?_; refine hx_loadf rfl 3 (.tmp 17) rfl s0 4 rfl Tryd.underlying3 rfl H1.out (lt_len (n := 68) N_.out (by decide)) ?_; rw [← Xx4.out]) | ((with_reducible refine gate_dst (N := 19) rfl ?_); refine Go.Proofs.YtknlpjoidjgciaaDoorW.PrintTab2.ungd (by rfl) ?_; refine goesL_ (some 19) rfl rfl Tryd.func132 (by kernel_rfl) rfl #[.int .i64 x4, .int .i64 0, .int .i64 1099511627776] rfl (by (try simp only [List.map_toArray, List.map_cons, List.map_nil]); first | done | rfl) ?_; refine (spec_l02Within.calls x4 0 1099511627776 b2 _ Wb2.out).mono ?_; rintro e_ w_ ⟨rfl, d_⟩; have b_ := kept_drawn d_; refine ⟨_, rfl, ?_⟩; have Hn := Aside0.mk (blk_below H1.out b_); have HBn := Aside0.mk (below_then HB.out HB.out.size b_); clear b_ d_ H1 HB; have H1 := Hn; have HB := HBn; clear Hn HBn; cases b2) | ((with_reducible refine gate_dst (N := 23) rfl ?_); refine hx_loadf rfl 3 (.tmp 22) rfl s0 1 rfl Tryd.underlying3 rfl H1.out (lt_len (n := 68) N_.out (by decide)) ?_; rw [← Xx1.out]) | ((with_reducible refine gate_dst (N := 24) rfl ?_); refine goesL_ (some 24) rfl rfl Tryd.func132 (by kernel_rfl) rfl #[.int .i64 x1, .int .i64 64, .int .i64 2048] rfl (by (try simp only [List.map_toArray, List.map_cons, List.map_nil]); first | done | rfl) ?_; refine (spec_l02Within.calls x1 64 2048 b3 _ Wb3.out).mono ?_; rintro e_ w_ ⟨rfl, d_⟩; have b_ := kept_drawn d_; refine ⟨_, rfl, ?_⟩; have Hn := Aside0.mk (blk_below H1.out b_); have HBn := Aside0.mk (below_then HB.out HB.out.size b_); clear b_ d_ H1 HB; have H1 := Hn; have HB := HBn; clear Hn HBn; cases b3) | ((with_reducible refine gate_dst (N := 28) rfl ?_); refine Go.Proofs.YtknlpjoidjgciaaDoorW.PrintTab2.ungd (by rfl) ?_; refine hx_loadf rfl 3 (.tmp 27) rfl s0 2 rfl Tryd.underlying3 rfl H1.out (lt_len (n := 68) N_.out (by decide)) ?_; rw [← Xx2.out]) | ((with_reducible refine gate_dst (N := 30) rfl ?_); refine Go.Proofs.YtknlpjoidjgciaaDoorW.PrintTab2.ungd (by rfl) ?_; refine hx_loadf rfl 3 (.tmp 29) rfl s0 1 rfl Tryd.underlying3 rfl H1.out (lt_len (n := 68) N_.out (by decide)) ?_; rw [← Xx1.out]) | ((with_reducible refine gate_dst (N := 32) rfl ?_); refine Go.Proofs.YtknlpjoidjgciaaDoorW.PrintTab2.ungd (by rfl) ?_; refine goesL_ (some 32) rfl rfl Tryd.func132 (by kernel_rfl) rfl #[.int .i64 x2, .int .i64 2, .int .i64 (wrap64 (x1 - 1))] rfl (by (try simp only [List.map_toArray, List.map_cons, List.map_nil]); first | done | rfl) ?_; refine (spec_l02Within.calls x2 2 (wrap64 (x1 - 1)) b4 _ Wb4.out).mono ?_; rintro e_ w_ ⟨rfl, d_⟩; have b_ := kept_drawn d_; refine ⟨_, rfl, ?_⟩; have Hn := Aside0.mk (blk_below H1.out b_); have HBn := Aside0.mk (below_then HB.out HB.out.size b_); clear b_ d_ H1 HB; have H1 := Hn; have HB := HBn; clear Hn HBn; cases b4) | ((with_reducible refine gate_dst (N := 37) rfl ?_); refine Go.Proofs.YtknlpjoidjgciaaDoorW.PrintTab2.ungd (by rfl) ?_; refine hx_loadf rfl 3 (.tmp 36) rfl s0 5 rfl Tryd.underlying3 rfl H1.out (lt_len (n := 68) N_.out (by decide)) ?_; rw [← Xx5.out]) | ((with_reducible refine gate_dst (N := 38) rfl ?_); refine Go.Proofs.YtknlpjoidjgciaaDoorW.PrintTab2.ungd (by rfl) ?_; refine goesL_ (some 38) rfl rfl Tryd.func132 (by kernel_rfl) rfl #[.int .i64 x5, .int .i64 0, .int .i64 1000] rfl (by (try simp only [List.map_toArray, List.map_cons, List.map_nil]); first | done | rfl) ?_; refine (spec_l02Within.calls x5 0 1000 b5 _ Wb5.out).mono ?_; rintro e_ w_ ⟨rfl, d_⟩; have b_ := kept_drawn d_; refine ⟨_, rfl, ?_⟩; have Hn := Aside0.mk (blk_below H1.out b_); have HBn := Aside0.mk (below_then HB.out HB.out.size b_); clear b_ d_ H1 HB; have H1 := Hn; have HB := HBn; clear Hn HBn; cases b5) | ((with_reducible refine gate_dst (N := 42) rfl ?_); refine hx_loadf rfl 3 (.tmp 41) rfl s0 6 rfl Tryd.underlying3 rfl H1.out (lt_len (n := 68) N_.out (by decide)) ?_; rw [← Xx6.out]) | ((with_reducible refine gate_dst (N := 43) rfl ?_); refine hx_neqi rfl 3 3 (.tmp 42) _ rfl Tryd.underlying3 x6 0 rfl rfl bz WZ ?_; cases bz) | ((with_reducible refine gate_dst (N := 46) rfl ?_); refine Go.Proofs.YtknlpjoidjgciaaDoorW.PrintTab2.ungd (by rfl) ?_; refine hx_loadf rfl 3 (.tmp 45) rfl s0 6 rfl Tryd.underlying3 rfl H1.out (lt_len (n := 68) N_.out (by decide)) ?_; rw [← Xx6.out]) | ((with_reducible refine gate_dst (N := 47) rfl ?_); refine Go.Proofs.YtknlpjoidjgciaaDoorW.PrintTab2.ungd (by rfl) ?_; refine goesL_ (some 47) rfl rfl Tryd.func132 (by kernel_rfl) rfl #[.int .i64 x6, .int .i64 8192, .int .i64 65536] rfl (by (try simp only [List.map_toArray, List.map_cons, List.map_nil]); first | done | rfl) ?_; refine (spec_l02Within.calls x6 8192 65536 b6 _ Wb6.out).mono ?_; rintro e_ w_ ⟨rfl, d_⟩; have b_ := kept_drawn d_; refine ⟨_, rfl, ?_⟩; have Hn := Aside0.mk (blk_below H1.out b_); have HBn := Aside0.mk (below_then HB.out HB.out.size b_); clear b_ d_ H1 HB; have H1 := Hn; have HB := HBn; clear Hn HBn; cases b6) | ((with_reducible refine gate_dst (N := 52) rfl ?_); refine Go.Proofs.YtknlpjoidjgciaaDoorW.PrintTab2.ungd (by rfl) ?_; refine hx_loadp rfl 124 (.tmp 51) rfl s0 7 15 rfl Tryd.underlying124 rfl (by kernel_rfl) H1.out (le_len (n := 68) N_.out (by decide)) ?_; rw [← XI.out]) | ((with_reducible refine gate_dst (N := 53) rfl ?_); refine Go.Proofs.YtknlpjoidjgciaaDoorW.PrintTab2.ungd (by rfl) ?_; refine goesL_ (some 53) rfl rfl Tryd.func134 (by kernel_rfl) rfl #[.agg (nums .i64 xi).toArray] rfl (by (try simp only [List.map_toArray, List.map_cons, List.map_nil]); first | done | rfl) ?_; refine (spec_l02Root.calls xi NXI.out b7 _ Wb7.out).mono ?_; rintro e_ w_ ⟨rfl, d_⟩; have b_ := d_; refine ⟨_, rfl, ?_⟩; have Hn := Aside0.mk (blk_below H1.out b_); have HBn := Aside0.mk (below_then HB.out HB.out.size b_); clear b_ d_ H1 HB; have H1 := Hn; have HB := HBn; clear Hn HBn; cases b7) | ((with_reducible refine gate_dst (N := 58) rfl ?_); refine Go.Proofs.YtknlpjoidjgciaaDoorW.PrintTab2.ungd (by rfl) ?_; refine hx_loadp rfl 124 (.tmp 57) rfl s0 22 15 rfl Tryd.underlying124 rfl (by kernel_rfl) H1.out (le_len (n := 68) N_.out (by decide)) ?_; rw [← XM.out]) | ((with_reducible refine gate_dst (N := 59) rfl ?_); refine Go.Proofs.YtknlpjoidjgciaaDoorW.PrintTab2.ungd (by rfl) ?_; refine goesL_ (some 59) rfl rfl Tryd.func134 (by kernel_rfl) rfl #[.agg (nums .i64 xm).toArray] rfl (by (try simp only [List.map_toArray, List.map_cons, List.map_nil]); first | done | rfl) ?_; refine (spec_l02Root.calls xm NXM.out b8 _ Wb8.out).mono ?_; rintro e_ w_ ⟨rfl, d_⟩; have b_ := d_; refine ⟨_, rfl, ?_⟩; have Hn := Aside0.mk (blk_below H1.out b_); have HBn := Aside0.mk (below_then HB.out HB.out.size b_); clear b_ d_ H1 HB; have H1 := Hn; have HB := HBn; clear Hn HBn; cases b8) | ((with_reducible refine gate_dst (N := 64) rfl ?_); refine hx_loadf rfl 3 (.tmp 63) rfl s0 22 rfl Tryd.underlying3 rfl H1.out (lt_len (n := 68) N_.out (by decide)) ?_; rw [← Xym.out]) | ((with_reducible refine gate_dst (N := 66) rfl ?_); refine hx_loadf rfl 3 (.tmp 65) rfl s0 1 rfl Tryd.underlying3 rfl H1.out (lt_len (n := 68) N_.out (by decide)) ?_; rw [← Xx1.out]) | ((with_reducible refine gate_dst (N := 68) rfl ?_); refine hx_neqi rfl 3 3 (.tmp 64) (.tmp 67) rfl Tryd.underlying3 ym (wrap64 (4 * x1)) rfl rfl bm WM ?_; cases bm) | ((with_reducible refine gate_dst (N := 72) rfl ?_); refine Go.Proofs.YtknlpjoidjgciaaDoorW.PrintTab2.ungd (by rfl) ?_; refine hx_loadf rfl 3 (.tmp 71) rfl s0 7 rfl Tryd.underlying3 rfl H1.out (lt_len (n := 68) N_.out (by decide)) ?_; rw [← Xyi.out]) | ((with_reducible refine gate_dst (N := 73) rfl ?_); refine Go.Proofs.YtknlpjoidjgciaaDoorW.PrintTab2.ungd (by rfl) ?_; refine goesL_ (some 73) rfl rfl Tryd.func135 (by kernel_rfl) rfl #[.int .i64 yi] rfl (by (try simp only [List.map_toArray, List.map_cons, List.map_nil]); first | done | rfl) ?_; refine (spec_l02TableSize.calls yi b9 _ Wb9.out).mono ?_; rintro e_ w_ ⟨rfl, d_⟩; have b_ := kept_drawn d_; refine ⟨_, rfl, ?_⟩; have Hn := Aside0.mk (blk_below H1.out b_); have HBn := Aside0.mk (below_then HB.out HB.out.size b_); clear b_ d_ H1 HB; have H1 := Hn; have HB := HBn; clear Hn HBn; cases b9))
  all_goals (try (go_ret; exact ⟨by rw [← H.out, HIN.out]; rfl, HB.out⟩))
  all_goals
    have HX1 := Aside0.mk (HR3.out (by first | rfl | trivial))
    have HF := Aside0.mk (show fsGood a0 = pl.all (fsPtr x1) by rw [HIN.out]; rfl)
    have HBS := Aside0.mk HB.out.size
    have info3_ : (Tryd.prog.info? 3).map (fun i => (i.zero, i.size, i.bytes)) = some (some (.int .i64 0), 1, 8) := by kernel_rfl
    obtain ⟨pi, hpi⟩ : ∃ p, p = seg xi 1 14 := ⟨_, rfl⟩
    obtain ⟨pm, hpm⟩ : ∃ p, p = seg xm 1 14 := ⟨_, rfl⟩
    have EPI := Aside0.mk (show spec_l02Pointers.f xi = some pi by rw [hpi]; exact if_pos NXI.out)
    have EPM := Aside0.mk (show spec_l02Pointers.f xm = some pm by rw [hpm]; exact if_pos NXM.out)
    have LPI := Aside0.mk (show pi.length = 14 by rw [hpi]; exact part_len (n := 15) NXI.out (by decide))
    have LPM := Aside0.mk (show pm.length = 14 by rw [hpm]; exact part_len (n := 15) NXM.out (by decide))
    have EPL := Aside0.mk (show (pi ++ pm) ++ seg a0 37 31 = pl by rw [HPL.out, hpi, hpm])
    clear hpi hpm HIN HR3
    refine wp_region_grow_tail 6 [Is (.pointer (some ⟨s0, 7, none⟩)), Is (.agg (nums .i64 xi).toArray), Own (Kd.int .i64) 3 w.heap.size pi, Is (.pointer (some ⟨s0, 22, none⟩)), Is (.agg (nums .i64 xm).toArray), Own (Kd.int .i64) 3 w.heap.size pm] (by kernel_rfl) (by kernel_rfl) (by kernel_rfl) (by kernel_rfl) (allst_cons st_is (allst_cons st_is (allst_cons st_own (allst_cons st_is (allst_cons st_is (allst_cons st_own allst_nil)))))) ?_ (fun w2 hgn => ?_)
    · refine steps_cons ?_ ?_
      · refine stepO_val rfl [] [1] (by kernel_rfl) (.pointer (some ⟨s0, 7, none⟩)) (fun a w_ hg hf => ?_) (fun w_ _ => rfl)
        obtain ⟨_, ⟨o1, _⟩⟩ := hf
        have e1 : a.tmps[1]? = some (.pointer (some ⟨s0, 0, none⟩)) := o1.trans rfl
        unfold execOp
        simp only [PrintLast.eval_of e1, Act.eval]
        go_simp
        (try rfl)
      refine steps_cons ?_ ?_
      · refine stepO_val rfl [(0, 76)] [] (by kernel_rfl) (.agg (nums .i64 xi).toArray) (fun a w_ hg hf => ?_) (fun w_ _ => rfl)
        obtain ⟨⟨⟨_, e76, rfl⟩, _⟩, _⟩ := hf
        replace e76 : a.tmps[76]? = some (.pointer (some ⟨s0, 7, none⟩)) := e76
        have c_ : (loadVar 124 ⟨s0, 7, none⟩).run Tryd.prog w_ = .ok (.agg (nums .i64 xi).toArray) w_ := by have h_ := run_load_part (P := Tryd.prog) w_ s0 7 15 127 124 _ (0, 0) _ (blk_below H1.out hg) Tryd.underlying124 rfl (by kernel_rfl) (by rw [nums_size _ _ _ N_.out]; decide); rw [take_nums, Array.toArray_toList] at h_; rw [XI.out]; exact h_
        unfold execOp
        simp only [PrintLast.eval_of e76, Instr.loadAt, Instr.sureAddr, Sem.run_bind, Sem.run_pure, Result.andThen_ok, c_]
      refine steps_cons ?_ ?_
      · refine stepO_call rfl [(1, 77)] [] (by kernel_rfl) Tryd.func161 (by kernel_rfl) rfl rfl (fun a w_ hg hf => ?_)
        obtain ⟨⟨⟨_, e77, rfl⟩, _⟩, _⟩ := hf
        replace e77 : a.tmps[77]? = some (.agg (nums .i64 xi).toArray) := e77
        refine ⟨#[.agg (nums .i64 xi).toArray], (by simp only [List.map_toArray, List.map_cons, List.map_nil, PrintLast.eval_of e77]; first | done | rfl), (spec_l02Pointers.calls xi NXI.out pi w_ EPI.out).mono ?_⟩
        rintro e_ w2_ ⟨v_, rfl, R_, b_⟩
        exact ⟨_, rfl, b_, Kd.R_lower R_ (Nat.le_trans HBS.out hg.size)⟩
      refine steps_cons ?_ ?_
      · refine stepO_val rfl [] [1] (by kernel_rfl) (.pointer (some ⟨s0, 22, none⟩)) (fun a w_ hg hf => ?_) (fun w_ _ => rfl)
        obtain ⟨_, ⟨o1, _⟩⟩ := hf
        have e1 : a.tmps[1]? = some (.pointer (some ⟨s0, 0, none⟩)) := o1.trans rfl
        unfold execOp
        simp only [PrintLast.eval_of e1, Act.eval]
        go_simp
        (try rfl)
      refine steps_cons ?_ ?_
      · refine stepO_val rfl [(3, 79)] [] (by kernel_rfl) (.agg (nums .i64 xm).toArray) (fun a w_ hg hf => ?_) (fun w_ _ => rfl)
        obtain ⟨⟨⟨_, e79, rfl⟩, _⟩, _⟩ := hf
        replace e79 : a.tmps[79]? = some (.pointer (some ⟨s0, 22, none⟩)) := e79
        have c_ : (loadVar 124 ⟨s0, 22, none⟩).run Tryd.prog w_ = .ok (.agg (nums .i64 xm).toArray) w_ := by have h_ := run_load_part (P := Tryd.prog) w_ s0 22 15 127 124 _ (0, 0) _ (blk_below H1.out hg) Tryd.underlying124 rfl (by kernel_rfl) (by rw [nums_size _ _ _ N_.out]; decide); rw [take_nums, Array.toArray_toList] at h_; rw [XM.out]; exact h_
        unfold execOp
        simp only [PrintLast.eval_of e79, Instr.loadAt, Instr.sureAddr, Sem.run_bind, Sem.run_pure, Result.andThen_ok, c_]
      refine steps_cons ?_ ?_
      · refine stepO_call rfl [(4, 80)] [] (by kernel_rfl) Tryd.func161 (by kernel_rfl) rfl rfl (fun a w_ hg hf => ?_)
        obtain ⟨⟨⟨_, e80, rfl⟩, _⟩, _⟩ := hf
        replace e80 : a.tmps[80]? = some (.agg (nums .i64 xm).toArray) := e80
        refine ⟨#[.agg (nums .i64 xm).toArray], (by simp only [List.map_toArray, List.map_cons, List.map_nil, PrintLast.eval_of e80]; first | done | rfl), (spec_l02Pointers.calls xm NXM.out pm w_ EPM.out).mono ?_⟩
        rintro e_ w2_ ⟨v_, rfl, R_, b_⟩
        exact ⟨_, rfl, b_, Kd.R_lower R_ (Nat.le_trans HBS.out hg.size)⟩
      exact steps_nil
    · skip
      refine ends_cons (fun v0_ p0_ => ?_)
      obtain rfl : v0_ = _ := p0_
      refine ends_cons (fun v1_ p1_ => ?_)
      obtain rfl : v1_ = _ := p1_
      refine ends_cons (fun v2_ p2_ => ?_)
      replace p2_ := Aside0.mk (show Own (Kd.int .i64) 3 w.heap.size pi v2_ w2 from p2_)
      refine ends_cons (fun v3_ p3_ => ?_)
      obtain rfl : v3_ = _ := p3_
      refine ends_cons (fun v4_ p4_ => ?_)
      obtain rfl : v4_ = _ := p4_
      refine ends_cons (fun v5_ p5_ => ?_)
      replace p5_ := Aside0.mk (show Own (Kd.int .i64) 3 w.heap.size pm v5_ w2 from p5_)
      refine ends_nil ?_
      simp only [Act.put, List.setIfInBounds_toArray, List.set_cons_succ, List.set_cons_zero]
      have HB2 := Aside0.mk (below_then HB.out HB.out.size hgn)
      have H2 := Aside0.mk (blk_below H1.out hgn)
      obtain ⟨Ap, cp, ep_⟩ := Kd.R_slice p5_.out
      subst ep_
      have O2 := Aside0.mk (Kd.R_types p2_.out H2.out (by decide))
      clear hgn HB H1 p2_
      simp only [List.drop_succ_cons, List.drop_zero]
      go_wp2_with (first | ((with_reducible refine gate_dst (N := 82) rfl ?_); refine Kd.R_append_rows (Kd.int .i64) (w0 := w) w.heap.size rfl (.tmp 78) (.tmp 81) 80 3 (.int .i64 0) 8 rfl Tryd.underlying80 info3_ rfl (by decide) (by omega) v2_ pi pm _ _ _ (fun k => True ∧ k ≠ s0) (fun _ => False) rfl rfl O2.out (Kd.R_reads' p5_.out).2.2 (fun _ _ h => h) (fun _ h => h.elim) (fun k hk => ⟨trivial, by have := blk_lt H2.out; omega⟩) HB2.out HB2.out.size (by rw [LPI.out, LPM.out]; decide) ?_; intro v82 w3 ho hb hg_ hn_; have H3 := Aside0.mk (blk_grown H2.out hg_ (fun e_ => (O2.out.1 s0 e_.symm).2 rfl)); have O3 := Aside0.mk ho; have HB3 := Aside0.mk hb; clear ho hb hg_ hn_ H2 HB2 p5_) | ((with_reducible refine gate_dst (N := 86) rfl ?_); refine Kd.R_append_rows (Kd.int .i64) (w0 := w) w.heap.size rfl (.tmp 83) (.tmp 85) 80 3 (.int .i64 0) 8 rfl Tryd.underlying80 info3_ rfl (by decide) (by omega) v82 (pi ++ pm) (seg a0 37 31) _ 31 _ (fun k => True ∧ k ≠ s0) (fun _ => False) rfl rfl O3.out (part_reads H3.out 37 31 (by rw [N_.out]; decide) (by decide)) (fun _ _ h => h) (fun _ h => h.elim) (fun k hk => ⟨trivial, by have := blk_lt H3.out; omega⟩) HB3.out HB3.out.size (by rw [List.length_append, LPI.out, LPM.out]; decide) ?_; intro v86 w4 ho hb hg_ hn_; have H4 := Aside0.mk (blk_grown H3.out hg_ (fun e_ => (O3.out.1 s0 e_.symm).2 rfl)); have O4 := Aside0.mk ho; have HB4 := Aside0.mk hb; clear ho hb hg_ hn_ H3 HB3; rw [EPL.out] at O4; obtain ⟨A86, c86, ea_⟩ := Kd.R_slice O4.out; subst ea_))
      (try simp only [Act.put, List.setIfInBounds_toArray, List.set_cons_succ, List.set_cons_zero])
      go_loopw [5, 88] (fun v5 v88 wr => ∃ (j : Nat) (u5 : Value), u5 = v5 ∧ v88 = .int .i64 (j : Int) ∧ Aside0 (j ≤ 59) ∧ Aside0 (∀ i, i < j → fsPtr x1 (pl.getD i 0) = true) ∧ Aside0 (Kd.R (Kd.int .i64) 3 wr w.heap.size (fun k => True ∧ k ≠ s0) (.slice A86 pl.length c86) pl) ∧ Aside0 (wr.heap[s0]? = some (.cells (nums .i64 a0).toArray 127 (0, 0))) ∧ Aside0 (Below w.heap.size w wr)) (fun _ v88 _ => 59 - (intOf v88).toNat)
      case atStart => exact ⟨0, _, rfl, rfl, ⟨Nat.zero_le _⟩, ⟨fun i hi => absurd hi (by omega)⟩, O4, H4, HB4⟩
      case round =>
        clear O4 H4 HB4
        obtain ⟨j, v5, rfl, rfl, hj, HG, OP, H1, HB⟩ := hrel
        by_cases c9 : j < 59
        · have c9b0 : decide ((j : Int) < (pl.length : Int)) = true := decide_eq_true (by rw [NPL.out]; omega)
          have c9b1 : decide (j < pl.length) = true := decide_eq_true (by rw [NPL.out]; omega)
          have p112 : 0 ≤ (j : Int) := by omega
          have q112 : (j : Int) < (pl.length : Int) := by rw [NPL.out]; omega
          obtain ⟨ad112, e112, hx112⟩ := Kd.at_int (Kd.R_reads' OP.out).2.2 (j : Int) p112 q112
          (first | subst e112 | cases e112)
          rw [Int.toNat_natCast] at hx112
          replace p112 := eq_true p112
          replace q112 := eq_true q112
          have q113 : (j < pl.length) = True := eq_true (by rw [NPL.out]; omega)
          obtain ⟨p, hp⟩ : ∃ p, p = rd pl (j : Int) := ⟨_, rfl⟩
          rw [← hp] at hx112
          have HPV := Aside0.mk (show p = pl.getD j 0 by rw [hp, rd, Int.toNat_natCast])
          have C9 := Aside0.mk c9
          clear hp c9
          obtain ⟨bp, hbp⟩ : ∃ b, b = ptrOk p := ⟨_, rfl⟩
          have HQ := Aside0.mk (show spec_l02Pointer.f p = some bp by rw [hbp]; exact ptr_i p)
          have HBP := Aside0.mk hbp
          clear hbp
          cases bp with
          | false =>
            go_wp2_with (first | ((with_reducible refine gate_dst (N := 93) rfl ?_); refine goesL_ (some 93) rfl rfl Tryd.func162 (by kernel_rfl) rfl #[.int .i64 p] rfl (by (try simp only [List.map_toArray, List.map_cons, List.map_nil]); first | done | rfl) ?_; refine (spec_l02Pointer.calls p false _ HQ.out).mono ?_; rintro e_ w_ ⟨rfl, d_⟩; have b_ := kept_drawn d_; refine ⟨_, rfl, ?_⟩; have H5 := Aside0.mk (blk_below H1.out b_); have HB5 := Aside0.mk (below_then HB.out HB.out.size b_); have OP5 := Aside0.mk (Kd.R_below OP.out b_); clear b_ d_ H1 HB OP))
            go_ret
            have e_ : fsGood a0 = false := by rw [HF.out]; exact all_not (j := j) (by rw [NPL.out]; exact C9.out) (by rw [← HPV.out]; exact (by unfold fsPtr; rw [← HBP.out]; rfl))
            exact ⟨by rw [← H.out, e_]; first | done | rfl, HB5.out⟩
          | true =>
            by_cases cl : p < x1
            · have cl0 : decide (x1 ≤ p) = false := decide_eq_false (by omega)
              have CL := Aside0.mk cl
              clear cl
              go_wp2_with (first | ((with_reducible refine gate_dst (N := 93) rfl ?_); refine goesL_ (some 93) rfl rfl Tryd.func162 (by kernel_rfl) rfl #[.int .i64 p] rfl (by (try simp only [List.map_toArray, List.map_cons, List.map_nil]); first | done | rfl) ?_; refine (spec_l02Pointer.calls p true _ HQ.out).mono ?_; rintro e_ w_ ⟨rfl, d_⟩; have b_ := kept_drawn d_; refine ⟨_, rfl, ?_⟩; have H5 := Aside0.mk (blk_below H1.out b_); have HB5 := Aside0.mk (below_then HB.out HB.out.size b_); have OP5 := Aside0.mk (Kd.R_below OP.out b_); clear b_ d_ H1 HB OP) | ((with_reducible refine gate_dst (N := 98) rfl ?_); refine Go.Proofs.YtknlpjoidjgciaaDoorW.PrintTab2.ungd (by rfl) ?_; refine hx_loadf rfl 3 (.tmp 97) rfl s0 1 rfl Tryd.underlying3 rfl H5.out (lt_len (n := 68) N_.out (by decide)) ?_; rw [← Xx1.out]))
              go_roundw
              case rel => exact ⟨j + 1, _, rfl, by rw [show wrap64 ((j : Int) + 1) = ((j + 1 : Nat) : Int) by (have := C9.out; unfold wrap64; omega)], ⟨by have := C9.out; omega⟩, ⟨fun i hi => by
                by_cases hij : i = j
                · rw [hij, ← HPV.out]; exact (by unfold fsPtr; rw [← HBP.out, decide_eq_true (show p < x1 by have := CL.out; omega)]; rfl)
                · exact HG.out i (by omega)⟩, OP5, H5, HB5⟩
              case measure =>
                rw [show wrap64 ((j : Int) + 1) = ((j + 1 : Nat) : Int) by (have := C9.out; unfold wrap64; omega)]
                simp only [intOf, Int.toNat_natCast]
                have := C9.out
                omega
            · have cl0 : decide (x1 ≤ p) = true := decide_eq_true (by omega)
              have CL := Aside0.mk cl
              clear cl
              go_wp2_with (first | ((with_reducible refine gate_dst (N := 93) rfl ?_); refine goesL_ (some 93) rfl rfl Tryd.func162 (by kernel_rfl) rfl #[.int .i64 p] rfl (by (try simp only [List.map_toArray, List.map_cons, List.map_nil]); first | done | rfl) ?_; refine (spec_l02Pointer.calls p true _ HQ.out).mono ?_; rintro e_ w_ ⟨rfl, d_⟩; have b_ := kept_drawn d_; refine ⟨_, rfl, ?_⟩; have H5 := Aside0.mk (blk_below H1.out b_); have HB5 := Aside0.mk (below_then HB.out HB.out.size b_); have OP5 := Aside0.mk (Kd.R_below OP.out b_); clear b_ d_ H1 HB OP) | ((with_reducible refine gate_dst (N := 98) rfl ?_); refine Go.Proofs.YtknlpjoidjgciaaDoorW.PrintTab2.ungd (by rfl) ?_; refine hx_loadf rfl 3 (.tmp 97) rfl s0 1 rfl Tryd.underlying3 rfl H5.out (lt_len (n := 68) N_.out (by decide)) ?_; rw [← Xx1.out]))
              go_ret
              have e_ : fsGood a0 = false := by rw [HF.out]; exact all_not (j := j) (by rw [NPL.out]; exact C9.out) (by rw [← HPV.out]; exact (by unfold fsPtr; rw [← HBP.out, decide_eq_false (show ¬ p < x1 by have := CL.out; omega)]; rfl))
              exact ⟨by rw [← H.out, e_]; first | done | rfl, HB5.out⟩
        · obtain rfl : j = 59 := by have := hj.out; omega
          have c9b0 : decide ((59 : Int) < (pl.length : Int)) = false := decide_eq_false (by rw [NPL.out]; decide)
          have c9b1 : decide (59 < pl.length) = false := decide_eq_false (by rw [NPL.out]; decide)
          clear c9
          go_wp2
          go_ret
          have e_ : fsGood a0 = true := by rw [HF.out]; exact all_of (fun j hj => HG.out j (by rw [← NPL.out]; exact hj))
          exact ⟨by rw [← H.out, e_]; first | done | rfl, HB.out⟩
end Go.Proofs.YtknlpjoidjgciaaDoor.PFnExactSnapshots
