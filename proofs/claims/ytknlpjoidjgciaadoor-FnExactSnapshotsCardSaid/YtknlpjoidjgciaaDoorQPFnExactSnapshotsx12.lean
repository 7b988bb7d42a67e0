/- PFnExactSnapshotsx12: functions of the law, walked; written by a program of this session. No condition. -/
import Derived.Test.YtknlpjoidjgciaaDoorQPFnExactSnapshotsx0
import Derived.Test.YtknlpjoidjgciaaDoorQPFnExactSnapshotsx10
import Derived.Test.YtknlpjoidjgciaaDoorQPFnExactSnapshotsx11
namespace Go.Proofs.YtknlpjoidjgciaaDoor.PFnExactSnapshots
open Go.RowKit Go.Proofs.YtknlpjoidjgciaaDoorW.PrintWords Go.Proofs.YtknlpjoidjgciaaDoorW.PrintLast Go.Proofs.YtknlpjoidjgciaaDoorW.PrintMore
attribute [local go_sem] max2_int min2_int max_two min_two max_three min_three max_four min_four
set_option linter.unusedVariables false
set_option linter.unusedSimpArgs false
open Go.Proofs.YtknlpjoidjgciaaDoorW Go.Proofs.YtknlpjoidjgciaaDoorW.PrintHand Go.Proofs.YtknlpjoidjgciaaDoorW.PrintHx
open Go.Proofs.YtknlpjoidjgciaaDoorW.PrintLe Go.Proofs.YtknlpjoidjgciaaDoorW.PrintGrow Go.Proofs.YtknlpjoidjgciaaDoorW.PrintIno Go.Proofs.YtknlpjoidjgciaaDoorW.PrintTab2 Go.Proofs.YtknlpjoidjgciaaDoorW.PrintTab3 Go.Proofs.YtknlpjoidjgciaaDoorW.PrintFsi Go.Proofs.YtknlpjoidjgciaaDoorW.PrintOrd
def impl_Fsinfo_right.f (a0 : List Int) : Option Bool := some (fsGood a0)
theorem impl_Fsinfo_right.win (x lo hi : Int) : impl_within.f x lo hi = some (rng x lo hi) := within_i x lo hi
theorem impl_Fsinfo_right.tsz (x : Int) : impl_tableSize.f x = some (sizeI x) := size_i x
theorem path_in {P : Program} {ops : Array Oper} {Q : Exit → Act → World → Prop} {md : Region.Mode} {b : Array Bool} {a : Act} {w : World} (T : List Nat) (hT : (T.map fun t => ops[t]?) = (T.filterMap fun t => ops[t]?).map some) (hB : pathB md ops T b = true) (h : wpList P ops Q (T.filterMap fun t => ops[t]?) a w) : wpAny P md ops Q T.length b a w := wpAny_of_path T _ b a w hT hB h
theorem run_ld {P : Program} {o : Oper} {a : Act} {w : World} (ty : TypeId) (x : Operand) (ho : o.op = .load ty x) (ad : Addr) (hx : a.eval x = .pointer (some ad)) (v : Value) (h : (loadVar ty ad).run P w = .ok v w) : (execOp a.eval o).run P w = .ok (.value v) w := by
  unfold execOp
  simp only [ho, hx, Instr.loadAt, Instr.sureAddr, Sem.run_bind, Sem.run_pure, Result.andThen_ok, h]
theorem impl_Fsinfo_right.ptr (p n : Int) (h : 64 ≤ n ∧ n ≤ 2048) : impl_isPointer.f p n = some (fsPtr n p) := by
  unfold impl_isPointer.f
  rw [show impl_within.f p 2 (wrap64 (n - 1)) = some (rng p 2 (wrap64 (n - 1))) from within_i _ _ _]
  exact ptr_j p n h
set_option maxHeartbeats 8000000 in
set_option maxRecDepth 100000 in
theorem impl_Fsinfo_right.calls (a0 : List Int) (n0 : a0.length = 68) (r : Bool) (w : World) (h : impl_Fsinfo_right.f a0 = some r) :
    Calls Tryd.prog 167 #[.agg (nums .i64 a0).toArray] w fun e w' => e = .returned (.bool r) ∧ Below w.heap.size w w' := by
  have H := Aside0.mk (Option.some.inj h)
  have N_ := Aside0.mk n0
  clear n0 h
  obtain ⟨x0, hx0⟩ : ∃ x, x = a0.getD 0 0 := ⟨_, rfl⟩
  obtain ⟨x1, hx1⟩ : ∃ x, x = a0.getD 1 0 := ⟨_, rfl⟩
  obtain ⟨x2, hx2⟩ : ∃ x, x = a0.getD 2 0 := ⟨_, rfl⟩
  obtain ⟨x3, hx3⟩ : ∃ x, x = a0.getD 3 0 := ⟨_, rfl⟩
  obtain ⟨x4, hx4⟩ : ∃ x, x = a0.getD 4 0 := ⟨_, rfl⟩
  obtain ⟨x5, hx5⟩ : ∃ x, x = a0.getD 5 0 := ⟨_, rfl⟩
  obtain ⟨x6, hx6⟩ : ∃ x, x = a0.getD 6 0 := ⟨_, rfl⟩
  obtain ⟨yi, hyi⟩ : ∃ x, x = a0.getD 7 0 := ⟨_, rfl⟩
  obtain ⟨ym, hym⟩ : ∃ x, x = a0.getD 22 0 := ⟨_, rfl⟩
  obtain ⟨xi, hxi⟩ : ∃ x, x = seg a0 7 15 := ⟨_, rfl⟩
  obtain ⟨xm, hxm⟩ : ∃ x, x = seg a0 22 15 := ⟨_, rfl⟩
  have NXI := Aside0.mk (show xi.length = 15 by rw [hxi]; exact part_len N_.out (by decide))
  have NXM := Aside0.mk (show xm.length = 15 by rw [hxm]; exact part_len N_.out (by decide))
  obtain ⟨pl, hpl⟩ : ∃ p, p = fsPtrs a0 := ⟨_, rfl⟩
  have NPL := Aside0.mk (show pl.length = 59 by rw [hpl]; exact fsPtrs_length N_.out)
  have HPL := Aside0.mk (show pl = (seg xi 1 14 ++ seg xm 1 14) ++ seg a0 37 31 by rw [hpl, hxi, hxm]; rfl)
  obtain ⟨b0, hb0⟩ : ∃ b, b = rng x0 1 1099511627776 := ⟨_, rfl⟩
  have Wb0 := Aside0.mk (show impl_within.f x0 1 1099511627776 = some b0 by rw [hb0]; exact impl_Fsinfo_right.win _ _ _)
  obtain ⟨b1, hb1⟩ : ∃ b, b = rng x3 1 1099511627776 := ⟨_, rfl⟩
  have Wb1 := Aside0.mk (show impl_within.f x3 1 1099511627776 = some b1 by rw [hb1]; exact impl_Fsinfo_right.win _ _ _)
  obtain ⟨b2, hb2⟩ : ∃ b, b = rng x4 0 1099511627776 := ⟨_, rfl⟩
  have Wb2 := Aside0.mk (show impl_within.f x4 0 1099511627776 = some b2 by rw [hb2]; exact impl_Fsinfo_right.win _ _ _)
  obtain ⟨b3, hb3⟩ : ∃ b, b = rng x1 64 2048 := ⟨_, rfl⟩
  have Wb3 := Aside0.mk (show impl_within.f x1 64 2048 = some b3 by rw [hb3]; exact impl_Fsinfo_right.win _ _ _)
  obtain ⟨b4, hb4⟩ : ∃ b, b = rng x2 2 (wrap64 (x1 - 1)) := ⟨_, rfl⟩
  have Wb4 := Aside0.mk (show impl_within.f x2 2 (wrap64 (x1 - 1)) = some b4 by rw [hb4]; exact impl_Fsinfo_right.win _ _ _)
  obtain ⟨b5, hb5⟩ : ∃ b, b = rng x5 0 1000 := ⟨_, rfl⟩
  have Wb5 := Aside0.mk (show impl_within.f x5 0 1000 = some b5 by rw [hb5]; exact impl_Fsinfo_right.win _ _ _)
  obtain ⟨b6, hb6⟩ : ∃ b, b = rng x6 8192 65536 := ⟨_, rfl⟩
  have Wb6 := Aside0.mk (show impl_within.f x6 8192 65536 = some b6 by rw [hb6]; exact impl_Fsinfo_right.win _ _ _)
  obtain ⟨b7, hb7⟩ : ∃ b, b = rootGood xi := ⟨_, rfl⟩
  have Wb7 := Aside0.mk (show impl_Root_right.f xi = some b7 by rw [hb7]; rfl)
  obtain ⟨b8, hb8⟩ : ∃ b, b = rootGood xm := ⟨_, rfl⟩
  have Wb8 := Aside0.mk (show impl_Root_right.f xm = some b8 by rw [hb8]; rfl)
  obtain ⟨b9, hb9⟩ : ∃ b, b = sizeI yi := ⟨_, rfl⟩
  have Wb9 := Aside0.mk (show impl_tableSize.f yi = some b9 by rw [hb9]; exact impl_Fsinfo_right.tsz _)
  obtain ⟨bz, hbz⟩ : ∃ b, b = (x6 != 0) := ⟨_, rfl⟩
  obtain ⟨bm, hbm⟩ : ∃ b, b = (ym != wrap64 (4 * x1)) := ⟨_, rfl⟩
  have WZ := Aside0.mk hbz.symm
  have WM := Aside0.mk hbm.symm
  have HR3 := Aside0.mk (show b3 = true → 64 ≤ x1 ∧ x1 ≤ 2048 from fun e_ => rng_of (hb3.symm.trans e_))
  have HIN := Aside0.mk (show fsGood a0 = (b0 && (b1 && (b2 && (b3 && (b4 && (b5 && ((!bz || b6) && (b7 && (b8 && (!bm && (b9 && pl.all (fsPtr x1)))))))))))) by
    rw [hb7, hb8, hpl, ← fsTop_w x0 x1 x2 x3 x4 x5 x6 yi ym (rootGood xi) (rootGood xm) ((fsPtrs a0).all (fsPtr x1)) b0 b1 b2 b3 b4 b5 bz b6 bm b9 hb0.symm hb1.symm hb2.symm hb3.symm hb4.symm hb5.symm hbz.symm hb6.symm hbm.symm hb9.symm, hx0, hx1, hx2, hx3, hx4, hx5, hx6, hyi, hym, hxi, hxm]
    rfl)
  have Xx0 := Aside0.mk hx0
  have Xx1 := Aside0.mk hx1
  have Xx2 := Aside0.mk hx2
  have Xx3 := Aside0.mk hx3
  have Xx4 := Aside0.mk hx4
  have Xx5 := Aside0.mk hx5
  have Xx6 := Aside0.mk hx6
  have Xyi := Aside0.mk hyi
  have Xym := Aside0.mk hym
  have XI := Aside0.mk hxi
  have XM := Aside0.mk hxm
  clear hxi hxm hpl hx0 hx1 hx2 hx3 hx4 hx5 hx6 hyi hym hb0 hb1 hb2 hb3 hb4 hb5 hb6 hb7 hb8 hb9 hbz hbm
  have HB0 : Aside0 (Below w.heap.size w w) := ⟨Below.refl _ _⟩
  obtain ⟨s0, Sz0⟩ : ∃ s0, Aside0 (w.heap.size = s0) := ⟨_, ⟨rfl⟩⟩
  have hw0 : w.heap.size ≤ s0 := Nat.le_of_eq Sz0.out
  have hw1 : s0 ≤ w.heap.size := Nat.le_of_eq Sz0.out.symm
  have HBP := Aside0.mk (show seg xi 1 14 = seg xi 1 14 from rfl)
  clear HBP
  go_enter Tryd.func167, Tryd.ntmps167
  go_wp2_with (first | ((with_reducible refine gate_dst (N := 1) rfl ?_); refine hx_box rfl 1 rfl 127 (.tmp 0) rfl Sz0 (.agg (nums .i64 a0).toArray) (nums .i64 a0).toArray rfl rfl ?_; intro w1 s1 L1 Sz1 b1_ g_; have H1 := Aside0.mk g_; have HB := Aside0.mk (below_then HB0.out HB0.out.size b1_); clear g_ HB0 b1_) | ((with_reducible refine gate_dst (N := 6) rfl ?_); refine hx_loadf rfl 3 (.tmp 5) rfl s0 0 rfl Tryd.underlying3 rfl H1.out (lt_len (n := 68) N_.out (by decide)) ?_; rw [← Xx0.out]) | ((with_reducible refine gate_dst (N := 7) rfl ?_); refine goesL_ (some 7) rfl rfl Tryd.func87 (by kernel_rfl) rfl #[.int .i64 x0, .int .i64 1, .int .i64 1099511627776] rfl (by (try simp only [List.map_toArray, List.map_cons, List.map_nil]); first | done | rfl) ?_; refine (impl_within.calls x0 1 1099511627776 b0 _ Wb0.out).mono ?_; rintro e_ w_ ⟨rfl, d_⟩; have b_ := kept_drawn d_; refine ⟨_, rfl, ?_⟩; have Hn := Aside0.mk (blk_below H1.out b_); have HBn := Aside0.mk (below_then HB.out HB.out.size b_); clear b_ d_ H1 HB; have H1 := Hn; have HB := HBn; clear Hn HBn; cases b0) | ((with_reducible refine gate_dst (N := 11) rfl ?_); refine Go.Proofs.YtknlpjoidjgciaaDoorW.PrintTab2.ungd (by rfl) ?_; refine hx_loadf rfl 3 (.tmp 10) rfl s0 3 rfl Tryd.underlying3 rfl H1.out (lt_len (n := 68) N_.out (by decide)) ?_; rw [← Xx3.out]) | ((with_reducible refine gate_dst (N := 12) rfl ?_); refine Go.Proofs.YtknlpjoidjgciaaDoorW.PrintTab2.ungd (by rfl) ?_; refine goesL_ (some 12) rfl rfl Tryd.func87 (by kernel_rfl) rfl #[.int .i64 x3, .int .i64 1, .int .i64 1099511627776] rfl (by (try simp only [List.map_toArray, List.map_cons, List.map_nil]); first | done | rfl) ?_; refine (impl_within.calls x3 1 1099511627776 b1 _ Wb1.out).mono ?_; rintro e_ w_ ⟨rfl, d_⟩; have b_ := kept_drawn d_; refine ⟨_, rfl, ?_⟩; have Hn := Aside0.mk (blk_below H1.out b_); have HBn := Aside0.mk (below_then HB.out HB.out.size b_); clear b_ d_ H1 HB; have H1 := Hn; have HB := HBn; clear Hn HBn; cases b1) | ((with_reducible refine gate_dst (N := 17) rfl ?_); refine Go.Proofs.YtknlpjoidjgciaaDoorW.PrintTab2.ungd (by rfl) ?_; refine hx_loadf rfl 3 (.tmp 16) rfl s0 4 rfl Tryd.underlying3 rfl H1.out (lt_len (n := 68) N_.out (by decide)) ?_; rw [← Xx4.out]) | ((with_reducible refine gate_dst (N := 18) rfl ?_); refine Go.Proofs.YtknlpjoidjgciaaDoorW.PrintTab2.ungd (by rfl) ?_; refine goesL_ (some 18) rfl rfl Tryd.func87 (by kernel_rfl) rfl #[.int .i64 x4, .int .i64 0, .int .i64 1099511627776] rfl (by (try simp only [List.map_toArray, List.map_cons, List.map_nil]); first | done | rfl) ?_; refine (impl_within.calls x4 0 1099511627776 b2 _ Wb2.out).mono ?_; rintro e_ w_ ⟨rfl, d_⟩; have b_ := kept_drawn d_; refine ⟨_, rfl, ?_⟩; have Hn := Aside0.mk (blk_below H1.out b_); have HBn := Aside0.mk (below_then HB.out HB.out.size b_); clear b_ d_ H1 HB; have H1 := Hn; have HB := HBn; clear Hn HBn; cases b2) | ((with_reducible refine gate_dst (N := 23) rfl ?_); refine Go.Proofs.YtknlpjoidjgciaaDoorW.PrintTab2.ungd (by rfl) ?_; refine hx_loadf rfl 3 (.tmp 22) rfl s0 1 rfl Tryd.underlying3 rfl H1.out (lt_len (n := 68) N_.out (by decide)) ?_; rw [← Xx1.out]) | ((with_reducible refine gate_dst (N := 24) rfl ?_); refine Go.Proofs.YtknlpjoidjgciaaDoorW.PrintTab2.ungd (by rfl) ?_; refine goesL_ (some 24) rfl rfl Tryd.func87 (by kernel_rfl) rfl #[.int .i64 x1, .int .i64 64, .int .i64 2048] rfl (by (try simp only [List.map_toArray, List.map_cons, List.map_nil]); first | done | rfl) ?_; refine (impl_within.calls x1 64 2048 b3 _ Wb3.out).mono ?_; rintro e_ w_ ⟨rfl, d_⟩; have b_ := kept_drawn d_; refine ⟨_, rfl, ?_⟩; have Hn := Aside0.mk (blk_below H1.out b_); have HBn := Aside0.mk (below_then HB.out HB.out.size b_); clear b_ d_ H1 HB; have H1 := Hn; have HB := HBn; clear Hn HBn; cases b3) | ((with_reducible refine gate_dst (N := 29) rfl ?_); refine Go.Proofs.YtknlpjoidjgciaaDoorW.PrintTab2.ungd (by rfl) ?_; refine hx_loadf rfl 3 (.tmp 28) rfl s0 2 rfl Tryd.underlying3 rfl H1.out (lt_len (n := 68) N_.out (by decide)) ?_; rw [← Xx2.out]) | ((with_reducible refine gate_dst (N := 31) rfl ?_); refine Go.Proofs.YtknlpjoidjgciaaDoorW.PrintTab2.ungd (by rfl) ?_; refine hx_loadf rfl 3 (.tmp 30) rfl s0 1 rfl Tryd.underlying3 rfl H1.out (lt_len (n := 68) N_.out (by decide)) ?_; rw [← Xx1.out]) | ((with_reducible refine gate_dst (N := 33) rfl ?_); refine Go.Proofs.YtknlpjoidjgciaaDoorW.PrintTab2.ungd (by rfl) ?_; refine goesL_ (some 33) rfl rfl Tryd.func87 (by kernel_rfl) rfl #[.int .i64 x2, .int .i64 2, .int .i64 (wrap64 (x1 - 1))] rfl (by (try simp only [List.map_toArray, List.map_cons, List.map_nil]); first | done | rfl) ?_; refine (impl_within.calls x2 2 (wrap64 (x1 - 1)) b4 _ Wb4.out).mono ?_; rintro e_ w_ ⟨rfl, d_⟩; have b_ := kept_drawn d_; refine ⟨_, rfl, ?_⟩; have Hn := Aside0.mk (blk_below H1.out b_); have HBn := Aside0.mk (below_then HB.out HB.out.size b_); clear b_ d_ H1 HB; have H1 := Hn; have HB := HBn; clear Hn HBn; cases b4) | ((with_reducible refine gate_dst (N := 38) rfl ?_); refine Go.Proofs.YtknlpjoidjgciaaDoorW.PrintTab2.ungd (by rfl) ?_; refine hx_loadf rfl 3 (.tmp 37) rfl s0 5 rfl Tryd.underlying3 rfl H1.out (lt_len (n := 68) N_.out (by decide)) ?_; rw [← Xx5.out]) | ((with_reducible refine gate_dst (N := 39) rfl ?_); refine Go.Proofs.YtknlpjoidjgciaaDoorW.PrintTab2.ungd (by rfl) ?_; refine goesL_ (some 39) rfl rfl Tryd.func87 (by kernel_rfl) rfl #[.int .i64 x5, .int .i64 0, .int .i64 1000] rfl (by (try simp only [List.map_toArray, List.map_cons, List.map_nil]); first | done | rfl) ?_; refine (impl_within.calls x5 0 1000 b5 _ Wb5.out).mono ?_; rintro e_ w_ ⟨rfl, d_⟩; have b_ := kept_drawn d_; refine ⟨_, rfl, ?_⟩; have Hn := Aside0.mk (blk_below H1.out b_); have HBn := Aside0.mk (below_then HB.out HB.out.size b_); clear b_ d_ H1 HB; have H1 := Hn; have HB := HBn; clear Hn HBn; cases b5) | ((with_reducible refine gate_dst (N := 44) rfl ?_); refine Go.Proofs.YtknlpjoidjgciaaDoorW.PrintTab2.ungd (by rfl) ?_; refine hx_loadf rfl 3 (.tmp 43) rfl s0 6 rfl Tryd.underlying3 rfl H1.out (lt_len (n := 68) N_.out (by decide)) ?_; rw [← Xx6.out]) | ((with_reducible refine gate_dst (N := 45) rfl ?_); refine Go.Proofs.YtknlpjoidjgciaaDoorW.PrintTab2.ungd (by rfl) ?_; refine hx_neqi rfl 3 3 (.tmp 44) _ rfl Tryd.underlying3 x6 0 rfl rfl bz WZ ?_; cases bz) | ((with_reducible refine gate_dst (N := 48) rfl ?_); refine Go.Proofs.YtknlpjoidjgciaaDoorW.PrintTab2.ungd (by rfl) ?_; refine hx_loadf rfl 3 (.tmp 47) rfl s0 6 rfl Tryd.underlying3 rfl H1.out (lt_len (n := 68) N_.out (by decide)) ?_; rw [← Xx6.out]) | ((with_reducible refine gate_dst (N := 49) rfl ?_); refine Go.Proofs.YtknlpjoidjgciaaDoorW.PrintTab2.ungd (by rfl) ?_; refine goesL_ (some 49) rfl rfl Tryd.func87 (by kernel_rfl) rfl #[.int .i64 x6, .int .i64 8192, .int .i64 65536] rfl (by (try simp only [List.map_toArray, List.map_cons, List.map_nil]); first | done | rfl) ?_; refine (impl_within.calls x6 8192 65536 b6 _ Wb6.out).mono ?_; rintro e_ w_ ⟨rfl, d_⟩; have b_ := kept_drawn d_; refine ⟨_, rfl, ?_⟩; have Hn := Aside0.mk (blk_below H1.out b_); have HBn := Aside0.mk (below_then HB.out HB.out.size b_); clear b_ d_ H1 HB; have H1 := Hn; have HB := HBn; clear Hn HBn; cases b6) | ((with_reducible refine gate_dst (N := 54) rfl ?_); refine hx_loadp rfl 124 (.tmp 53) rfl s0 7 15 rfl Tryd.underlying124 rfl (by kernel_rfl) H1.out (le_len (n := 68) N_.out (by decide)) ?_; rw [← XI.out]) | ((with_reducible refine gate_dst (N := 55) rfl ?_); refine goesL_ (some 55) rfl rfl Tryd.func182 (by kernel_rfl) rfl #[.agg (nums .i64 xi).toArray] rfl (by (try simp only [List.map_toArray, List.map_cons, List.map_nil]); first | done | rfl) ?_; refine (impl_Root_right.calls xi NXI.out b7 _ Wb7.out).mono ?_; rintro e_ w_ ⟨rfl, d_⟩; have b_ := d_; refine ⟨_, rfl, ?_⟩; have Hn := Aside0.mk (blk_below H1.out b_); have HBn := Aside0.mk (below_then HB.out HB.out.size b_); clear b_ d_ H1 HB; have H1 := Hn; have HB := HBn; clear Hn HBn; cases b7) | ((with_reducible refine gate_dst (N := 59) rfl ?_); refine Go.Proofs.YtknlpjoidjgciaaDoorW.PrintTab2.ungd (by rfl) ?_; refine hx_loadp rfl 124 (.tmp 58) rfl s0 22 15 rfl Tryd.underlying124 rfl (by kernel_rfl) H1.out (le_len (n := 68) N_.out (by decide)) ?_; rw [← XM.out]) | ((with_reducible refine gate_dst (N := 60) rfl ?_); refine Go.Proofs.YtknlpjoidjgciaaDoorW.PrintTab2.ungd (by rfl) ?_; refine goesL_ (some 60) rfl rfl Tryd.func182 (by kernel_rfl) rfl #[.agg (nums .i64 xm).toArray] rfl (by (try simp only [List.map_toArray, List.map_cons, List.map_nil]); first | done | rfl) ?_; refine (impl_Root_right.calls xm NXM.out b8 _ Wb8.out).mono ?_; rintro e_ w_ ⟨rfl, d_⟩; have b_ := d_; refine ⟨_, rfl, ?_⟩; have Hn := Aside0.mk (blk_below H1.out b_); have HBn := Aside0.mk (below_then HB.out HB.out.size b_); clear b_ d_ H1 HB; have H1 := Hn; have HB := HBn; clear Hn HBn; cases b8) | ((with_reducible refine gate_dst (N := 66) rfl ?_); refine Go.Proofs.YtknlpjoidjgciaaDoorW.PrintTab2.ungd (by rfl) ?_; refine hx_loadf rfl 3 (.tmp 65) rfl s0 22 rfl Tryd.underlying3 rfl H1.out (lt_len (n := 68) N_.out (by decide)) ?_; rw [← Xym.out]) | ((with_reducible refine gate_dst (N := 68) rfl ?_); refine Go.Proofs.YtknlpjoidjgciaaDoorW.PrintTab2.ungd (by rfl) ?_; refine hx_loadf rfl 3 (.tmp 67) rfl s0 1 rfl Tryd.underlying3 rfl H1.out (lt_len (n := 68) N_.out (by decide)) ?_; rw [← Xx1.out]) | ((with_reducible refine gate_dst (N := 70) rfl ?_); refine Go.Proofs.YtknlpjoidjgciaaDoorW.PrintTab2.ungd (by rfl) ?_; refine hx_neqi rfl 3 3 (.tmp 66) (.tmp 69) rfl Tryd.underlying3 ym (wrap64 (4 * x1)) rfl rfl bm WM ?_; cases bm) | ((with_reducible refine gate_dst (N := 75) rfl ?_); refine Go.Proofs.YtknlpjoidjgciaaDoorW.PrintTab2.ungd (by rfl) ?_; refine hx_loadf rfl 3 (.tmp 74) rfl s0 7 rfl Tryd.underlying3 rfl H1.out (lt_len (n := 68) N_.out (by decide)) ?_; rw [← Xyi.out]) | ((with_reducible refine gate_dst (N := 76) rfl ?_); refine Go.Proofs.YtknlpjoidjgciaaDoorW.PrintTab2.ungd (by rfl) ?_; refine goesL_ (some 76) rfl rfl Tryd.func183 (by kernel_rfl) rfl #[.int .i64 yi] rfl (by (try simp only [List.map_toArray, List.map_cons, List.map_nil]); first | done | rfl) ?_; refine (impl_tableSize.calls yi b9 _ Wb9.out).mono ?_; rintro e_ w_ ⟨rfl, d_⟩; have b_ := kept_drawn d_; refine ⟨_, rfl, ?_⟩; have Hn := Aside0.mk (blk_below H1.out b_); have HBn := Aside0.mk (below_then HB.out HB.out.size b_); clear b_ d_ H1 HB; have H1 := Hn; have HB := HBn; clear Hn HBn; cases b9))
  all_goals (try (go_ret; exact ⟨by rw [← H.out, HIN.out]; rfl, HB.out⟩))
  all_goals
    have HX1 := Aside0.mk (HR3.out (by first | rfl | trivial))
    have HF := Aside0.mk (show fsGood a0 = pl.all (fsPtr x1) by rw [HIN.out]; rfl)
    have HBS := Aside0.mk HB.out.size
    have info3_ : (Tryd.prog.info? 3).map (fun i => (i.zero, i.size, i.bytes)) = some (some (.int .i64 0), 1, 8) := by kernel_rfl
    obtain ⟨pi, hpi⟩ : ∃ p, p = seg xi 1 14 := ⟨_, rfl⟩
    obtain ⟨pm, hpm⟩ : ∃ p, p = seg xm 1 14 := ⟨_, rfl⟩
    have EPI := Aside0.mk (show impl_Root_pointers.f xi = some pi by rw [hpi]; exact if_pos NXI.out)
    have EPM := Aside0.mk (show impl_Root_pointers.f xm = some pm by rw [hpm]; exact if_pos NXM.out)
    have LPI := Aside0.mk (show pi.length = 14 by rw [hpi]; exact part_len (n := 15) NXI.out (by decide))
    have LPM := Aside0.mk (show pm.length = 14 by rw [hpm]; exact part_len (n := 15) NXM.out (by decide))
    have EPL := Aside0.mk (show (pi ++ pm) ++ seg a0 37 31 = pl by rw [HPL.out, hpi, hpm])
    clear hpi hpm HIN HR3
    refine region_in (by kernel_rfl) H1.out HB.out ?_
    intro wd H2 HB2
    have HBS2 := Aside0.mk HB2.out.size
    clear H1 HB
    show wpAny _ _ _ _ 12 _ _ _
    refine wpAny_take (i := 0) (v := .pointer (some ⟨s0, 7, none⟩)) rfl (by kernel_rfl) (by kernel_rfl) (by kernel_rfl) (fun _ _ _ h => h) (.inl ⟨rfl, fun w_ => ?_⟩) ?_
    · unfold execOp
      go_simp
      (try rfl)
    simp only [List.getElem_toArray, List.getElem_cons_succ, List.getElem_cons_zero, Act.put, List.setIfInBounds_toArray, List.set_cons_succ, List.set_cons_zero]
    refine wpAny_take (i := 3) (v := .pointer (some ⟨s0, 22, none⟩)) rfl (by kernel_rfl) (by kernel_rfl) (by kernel_rfl) (fun _ _ _ h => h) (.inl ⟨rfl, fun w_ => ?_⟩) ?_
    · unfold execOp
      go_simp
      (try rfl)
    simp only [List.getElem_toArray, List.getElem_cons_succ, List.getElem_cons_zero, Act.put, List.setIfInBounds_toArray, List.set_cons_succ, List.set_cons_zero]
    refine wpAny_take (i := 7) (v := .pointer (some ⟨s0, 37, none⟩)) rfl (by kernel_rfl) (by kernel_rfl) (by kernel_rfl) (fun _ _ _ h => h) (.inl ⟨rfl, fun w_ => ?_⟩) ?_
    · unfold execOp
      go_simp
      (try rfl)
    simp only [List.getElem_toArray, List.getElem_cons_succ, List.getElem_cons_zero, Act.put, List.setIfInBounds_toArray, List.set_cons_succ, List.set_cons_zero]
    refine wpAny_take (i := 8) (v := .slice (some ⟨s0, 37, none⟩) 31 31) rfl (by kernel_rfl) (by kernel_rfl) (by kernel_rfl) (fun _ _ _ h => h) (.inl ⟨rfl, fun w_ => ?_⟩) ?_
    · unfold execOp
      go_simp
      (try rfl)
    simp only [List.getElem_toArray, List.getElem_cons_succ, List.getElem_cons_zero, Act.put, List.setIfInBounds_toArray, List.set_cons_succ, List.set_cons_zero]
    refine wpAny_take (i := 11) (v := .int .i64 0) rfl (by kernel_rfl) (by kernel_rfl) (by kernel_rfl) (fun _ _ _ h => h) (.inl ⟨rfl, fun w_ => ?_⟩) ?_
    · unfold execOp
      go_simp
      (try rfl)
    simp only [List.getElem_toArray, List.getElem_cons_succ, List.getElem_cons_zero, Act.put, List.setIfInBounds_toArray, List.set_cons_succ, List.set_cons_zero]
    have LD1 : ∀ W : World, W.heap[s0]? = some (.cells (nums .i64 a0).toArray 127 (0, 0)) → (loadVar 124 ⟨s0, 7, none⟩).run Tryd.prog W = .ok (.agg (nums .i64 xi).toArray) W := fun W hW => by have h_ := run_load_part (P := Tryd.prog) W s0 7 15 127 124 _ (0, 0) _ hW Tryd.underlying124 rfl (by kernel_rfl) (by rw [nums_size _ _ _ N_.out]; decide); rw [take_nums, Array.toArray_toList] at h_; rw [XI.out]; exact h_
    have LD2 : ∀ W : World, W.heap[s0]? = some (.cells (nums .i64 a0).toArray 127 (0, 0)) → (loadVar 124 ⟨s0, 22, none⟩).run Tryd.prog W = .ok (.agg (nums .i64 xm).toArray) W := fun W hW => by have h_ := run_load_part (P := Tryd.prog) W s0 22 15 127 124 _ (0, 0) _ hW Tryd.underlying124 rfl (by kernel_rfl) (by rw [nums_size _ _ _ N_.out]; decide); rw [take_nums, Array.toArray_toList] at h_; rw [XM.out]; exact h_
    refine two_loads (fuel := 4) 1 2 4 rfl rfl rfl rfl rfl rfl (by kernel_rfl) (by kernel_rfl) (by kernel_rfl) (by kernel_rfl) (by kernel_rfl) (by kernel_rfl) (by decide) (by decide) rfl rfl rfl (by decide) (by decide) (.agg (nums .i64 xi).toArray) (.agg (nums .i64 xm).toArray) ?l1 ?l1' ?l2 ?l2' ?l2c Tryd.func184 (by kernel_rfl) rfl rfl #[.agg (nums .i64 xi).toArray] ?ha1 ?ha2 (fun v W => Kd.R (Kd.int .i64) 3 W w.heap.size (fun _ => True) v pi) ?hc ?hk
    case l1 => exact run_ld 124 (.tmp 79) rfl _ rfl _ (LD1 wd H2.out)
    case l1' => exact run_ld 124 (.tmp 79) rfl _ rfl _ (LD1 wd H2.out)
    case l2 => exact run_ld 124 (.tmp 82) rfl _ rfl _ (LD2 wd H2.out)
    case l2' => exact run_ld 124 (.tmp 82) rfl _ rfl _ (LD2 wd H2.out)
    case ha1 => first | rfl | (simp [Act.put, Act.eval]; done)
    case ha2 => first | rfl | (simp [Act.put, Act.eval]; done)
    case l2c => exact fun v w2 hb_ => run_ld 124 (.tmp 82) rfl _ rfl _ (LD2 w2 (blk_below H2.out hb_))
    case hc =>
      refine (impl_Root_pointers.calls xi NXI.out pi _ EPI.out).mono ?_
      rintro e_ w2 ⟨v_, rfl, R_, b_⟩
      exact ⟨v_, rfl, Kd.R_lower R_ HBS2.out, b_⟩
    case hk =>
      intro v2_ w2 hb_ hp_
      have HB3 := Aside0.mk (below_then HB2.out HB2.out.size hb_)
      have H3 := Aside0.mk (blk_below H2.out hb_)
      have O2 := Aside0.mk (Kd.R_types hp_ H3.out (by decide))
      clear hb_ hp_ HB2 H2 LD1 LD2
      simp only [List.getElem_toArray, List.getElem_cons_succ, List.getElem_cons_zero, Act.put, List.setIfInBounds_toArray, List.set_cons_succ, List.set_cons_zero]
      refine path_in [5, 6, 9, 10] (by kernel_rfl) (by kernel_rfl) ?_
      simp only [List.filterMap_cons, List.filterMap_nil, List.getElem?_toArray, List.getElem?_cons_succ, List.getElem?_cons_zero]
      ((with_reducible refine gate_dst (N := 84) rfl ?_); refine goesL_ (some 84) rfl rfl Tryd.func184 (by kernel_rfl) rfl #[.agg (nums .i64 xm).toArray] rfl (by (try simp only [List.map_toArray, List.map_cons, List.map_nil]); first | done | rfl) ?_; refine (impl_Root_pointers.calls xm NXM.out pm _ EPM.out).mono ?_; rintro e_ w4 ⟨v84, rfl, R_, b_⟩; obtain ⟨Ap, cp, ep_⟩ := Kd.R_slice R_; subst ep_; refine ⟨_, rfl, ?_⟩; have p5_ := Aside0.mk (Kd.R_lower R_ HB3.out.size); have HB4 := Aside0.mk (below_then HB3.out HB3.out.size b_); have H4 := Aside0.mk (blk_below H3.out b_); have O4 := Aside0.mk (Kd.R_below O2.out b_); clear R_ b_ HB3 H3 O2)
      ((with_reducible refine gate_dst (N := 85) rfl ?_); refine Kd.R_append_rows (Kd.int .i64) (w0 := w) w.heap.size rfl (.tmp 81) (.tmp 84) 80 3 (.int .i64 0) 8 rfl Tryd.underlying80 info3_ rfl (by decide) (by omega) v2_ pi pm _ _ _ (fun k => True ∧ k ≠ s0) (fun _ => False) rfl rfl O4.out (Kd.R_reads' p5_.out).2.2 (fun _ _ h => h) (fun _ h => h.elim) (fun k hk => ⟨trivial, by have := blk_lt H4.out; omega⟩) HB4.out HB4.out.size (by rw [LPI.out, LPM.out]; decide) ?_; intro v85 w5 ho hb hg_ hn_; have H5 := Aside0.mk (blk_grown H4.out hg_ (fun e_ => (O4.out.1 s0 e_.symm).2 rfl)); have O5 := Aside0.mk ho; have HB5 := Aside0.mk hb; clear ho hb hg_ hn_ H4 HB4 p5_)
      ((with_reducible refine gate_dst (N := 88) rfl ?_); refine Kd.R_append_rows (Kd.int .i64) (w0 := w) w.heap.size rfl (.tmp 85) (.tmp 87) 80 3 (.int .i64 0) 8 rfl Tryd.underlying80 info3_ rfl (by decide) (by omega) v85 (pi ++ pm) (seg a0 37 31) _ 31 _ (fun k => True ∧ k ≠ s0) (fun _ => False) rfl rfl O5.out (part_reads H5.out 37 31 (by rw [N_.out]; decide) (by decide)) (fun _ _ h => h) (fun _ h => h.elim) (fun k hk => ⟨trivial, by have := blk_lt H5.out; omega⟩) HB5.out HB5.out.size (by rw [List.length_append, LPI.out, LPM.out]; decide) ?_; intro v88 w6 ho hb hg_ hn_; have H6 := Aside0.mk (blk_grown H5.out hg_ (fun e_ => (O5.out.1 s0 e_.symm).2 rfl)); have O6 := Aside0.mk ho; have HB6 := Aside0.mk hb; clear ho hb hg_ hn_ H5 HB5; rw [EPL.out] at O6; obtain ⟨A86, c86, ea_⟩ := Kd.R_slice O6.out; subst ea_)
      go_wp2
      (try simp only [Act.put, List.setIfInBounds_toArray, List.set_cons_succ, List.set_cons_zero])
      have O4 := O6
      have H4 := H6
      have HB4 := HB6
      clear O6 H6 HB6
      go_loopw [4, 90] (fun v5 v88 wr => ∃ (j : Nat) (u5 : Value), u5 = v5 ∧ v88 = .int .i64 (j : Int) ∧ Aside0 (j ≤ 59) ∧ Aside0 (∀ i, i < j → fsPtr x1 (pl.getD i 0) = true) ∧ Aside0 (Kd.R (Kd.int .i64) 3 wr w.heap.size (fun k => True ∧ k ≠ s0) (.slice A86 pl.length c86) pl) ∧ Aside0 (wr.heap[s0]? = some (.cells (nums .i64 a0).toArray 127 (0, 0))) ∧ Aside0 (Below w.heap.size w wr)) (fun _ v88 _ => 59 - (intOf v88).toNat)
      case atStart => exact ⟨0, _, rfl, rfl, ⟨Nat.zero_le _⟩, ⟨fun i hi => absurd hi (by omega)⟩, O4, H4, HB4⟩
      case round =>
        clear O4 H4 HB4
        obtain ⟨j, v5, rfl, rfl, hj, HG, OP, H1, HB⟩ := hrel
        by_cases c9 : j < 59
        · have c9b0 : decide ((j : Int) < (pl.length : Int)) = true := decide_eq_true (by rw [NPL.out]; omega)
          have c9b1 : decide (j < pl.length) = true := decide_eq_true (by rw [NPL.out]; omega)
          have p112 : 0 ≤ (j : Int) := by omega
          have q112 : (j : Int) < (pl.length : Int) := by rw [NPL.out]; omega
          obtain ⟨ad112, e112, hx112⟩ := Kd.at_int (Kd.R_reads' OP.out).2.2 (j : Int) p112 q112
          (first | subst e112 | cases e112)
          rw [Int.toNat_natCast] at hx112
          replace p112 := eq_true p112
          replace q112 := eq_true q112
          have q113 : (j < pl.length) = True := eq_true (by rw [NPL.out]; omega)
          obtain ⟨p, hp⟩ : ∃ p, p = rd pl (j : Int) := ⟨_, rfl⟩
          rw [← hp] at hx112
          have HPV := Aside0.mk (show p = pl.getD j 0 by rw [hp, rd, Int.toNat_natCast])
          have C9 := Aside0.mk c9
          clear hp c9
          obtain ⟨bp, hbp⟩ : ∃ b, b = fsPtr x1 p := ⟨_, rfl⟩
          have HQ := Aside0.mk (show impl_isPointer.f p x1 = some bp by rw [hbp]; exact impl_Fsinfo_right.ptr p x1 HX1.out)
          have HBP := Aside0.mk hbp
          clear hbp
          cases bp with
          | false =>
            go_wp2_with (first | ((with_reducible refine gate_dst (N := 96) rfl ?_); refine hx_loadf rfl 3 (.tmp 95) rfl s0 1 rfl Tryd.underlying3 rfl H1.out (lt_len (n := 68) N_.out (by decide)) ?_; rw [← Xx1.out]) | ((with_reducible refine gate_dst (N := 97) rfl ?_); refine goesL_ (some 97) rfl rfl Tryd.func185 (by kernel_rfl) rfl #[.int .i64 p, .int .i64 x1] rfl (by (try simp only [List.map_toArray, List.map_cons, List.map_nil]); first | done | rfl) ?_; refine (impl_isPointer.calls p x1 false _ HQ.out).mono ?_; rintro e_ w_ ⟨rfl, d_⟩; have b_ := kept_drawn d_; refine ⟨_, rfl, ?_⟩; have H5 := Aside0.mk (blk_below H1.out b_); have HB5 := Aside0.mk (below_then HB.out HB.out.size b_); have OP5 := Aside0.mk (Kd.R_below OP.out b_); clear b_ d_ H1 HB OP))
            go_ret
            have e_ : fsGood a0 = false := by rw [HF.out]; exact all_not (j := j) (by rw [NPL.out]; exact C9.out) (by rw [← HPV.out]; exact HBP.out.symm)
            exact ⟨by rw [← H.out, e_]; first | done | rfl, HB5.out⟩
          | true =>
            go_wp2_with (first | ((with_reducible refine gate_dst (N := 96) rfl ?_); refine hx_loadf rfl 3 (.tmp 95) rfl s0 1 rfl Tryd.underlying3 rfl H1.out (lt_len (n := 68) N_.out (by decide)) ?_; rw [← Xx1.out]) | ((with_reducible refine gate_dst (N := 97) rfl ?_); refine goesL_ (some 97) rfl rfl Tryd.func185 (by kernel_rfl) rfl #[.int .i64 p, .int .i64 x1] rfl (by (try simp only [List.map_toArray, List.map_cons, List.map_nil]); first | done | rfl) ?_; refine (impl_isPointer.calls p x1 true _ HQ.out).mono ?_; rintro e_ w_ ⟨rfl, d_⟩; have b_ := kept_drawn d_; refine ⟨_, rfl, ?_⟩; have H5 := Aside0.mk (blk_below H1.out b_); have HB5 := Aside0.mk (below_then HB.out HB.out.size b_); have OP5 := Aside0.mk (Kd.R_below OP.out b_); clear b_ d_ H1 HB OP))
            go_roundw
            case rel => exact ⟨j + 1, _, rfl, by rw [show wrap64 ((j : Int) + 1) = ((j + 1 : Nat) : Int) by (have := C9.out; unfold wrap64; omega)], ⟨by have := C9.out; omega⟩, ⟨fun i hi => by
              by_cases hij : i = j
              · rw [hij, ← HPV.out]; exact HBP.out.symm
              · exact HG.out i (by omega)⟩, OP5, H5, HB5⟩
            case measure =>
              rw [show wrap64 ((j : Int) + 1) = ((j + 1 : Nat) : Int) by (have := C9.out; unfold wrap64; omega)]
              simp only [intOf, Int.toNat_natCast]
              have := C9.out
              omega
        · obtain rfl : j = 59 := by have := hj.out; omega
          have c9b0 : decide ((59 : Int) < (pl.length : Int)) = false := decide_eq_false (by rw [NPL.out]; decide)
          have c9b1 : decide (59 < pl.length) = false := decide_eq_false (by rw [NPL.out]; decide)
          clear c9
          go_wp2
          go_ret
          have e_ : fsGood a0 = true := by rw [HF.out]; exact all_of (fun j hj => HG.out j (by rw [← NPL.out]; exact hj))
          exact ⟨by rw [← H.out, e_]; first | done | rfl, HB.out⟩
def impl_put_int.l0 : Nat → List Int → Int → Int → Int → Int → Option (List Int)
  | 0, _, _, _, _, _ => none
  | k + 1, x0, x1, x3, x9, x10 => if x10 < x9 then (if 0 ≤ (wrap64 (8 * x10)) then (if 0 ≤ (wrap64 (x1 + x10)) then (if (wrap64 (x1 + x10)) < (x0.length : Int) then (impl_put_int.l0 k (x0.set ((wrap64 (x1 + x10)) : Int).toNat ((shr .u64 (IntKind.u64.wrap (x3)) (wrap64 (8 * x10))) % 256)) x1 x3 x9 (wrap64 (x10 + 1))) else (none)) else (none)) else (none)) else (some x0)
def impl_put_int.f (k : Nat) (l0 : List Int) (a1 : Int) (a2 : Int) (a3 : Int) : Option (List Int) := impl_put_int.l0 k l0 a1 a3 a2 0
theorem impl_put_int.mono_l : ∀ k, (∀ y0 y1 y2 y3 y4, LeO (impl_put_int.l0 k y0 y1 y2 y3 y4) (impl_put_int.l0 (k + 1) y0 y1 y2 y3 y4))
  | 0 => fun _ _ _ _ _ r h => by simp [impl_put_int.l0] at h
  | k + 1 => by
    have ih0 := impl_put_int.mono_l k
    · intro y0 y1 y2 y3 y4
      unfold impl_put_int.l0
      repeat' first
      | (with_reducible exact ih0 _ _ _ _ _)
      | (with_reducible exact LeO.refl _)
      | (with_reducible exact LeO.none _)
      | (with_reducible refine LeO.ite ?_ ?_)
      | (with_reducible refine LeO.bind ?_ (fun _ => ?_))
      | exact ih0 _ _ _ _ _
      | exact LeO.none _
      | refine LeO.ite ?_ ?_
      | refine LeO.bind ?_ (fun _ => ?_)
theorem impl_put_int.mono : ∀ a0 a1 a2 a3 k, LeO (impl_put_int.f k a0 a1 a2 a3) (impl_put_int.f (k + 1) a0 a1 a2 a3) := by
  intro a0 a1 a2 a3 k
  have ih0 := impl_put_int.mono_l k
  unfold impl_put_int.f
  repeat' first
      | (with_reducible exact ih0 _ _ _ _ _)
      | (with_reducible exact LeO.refl _)
      | (with_reducible exact LeO.none _)
      | (with_reducible refine LeO.ite ?_ ?_)
      | (with_reducible refine LeO.bind ?_ (fun _ => ?_))
      | exact ih0 _ _ _ _ _
      | exact LeO.none _
      | refine LeO.ite ?_ ?_
      | refine LeO.bind ?_ (fun _ => ?_)
set_option maxHeartbeats 8000000 in
set_option maxRecDepth 100000 in
theorem impl_put_int.calls (k : Nat) (P0_ : Nat → Prop) (u9000_ : Value) (l0 : List Int) (a1 : Int) (a2 : Int) (a3 : Int) (r : List Int) (w0 w : World) (hB : Below w0.heap.size w0 w) (ho0 : Kd.R (Kd.int .u8) 5 w w0.heap.size P0_ u9000_ l0) (h : impl_put_int.f k l0 a1 a2 a3 = some r) :
    Calls Tryd.prog 168 #[u9000_, .int .i64 a1, .int .i64 a2, .int .i64 a3] w fun e w' => e = .returned (.tuple #[]) ∧ Kd.R (Kd.int .u8) 5 w' w0.heap.size (fun k_ => (P0_ k_ ∨ w.heap.size ≤ k_)) u9000_ r ∧ Below w0.heap.size w0 w' ∧ Kept w w' (fun k_ => P0_ k_) := by
  have HO0 := Aside0.mk (show Kd.R (Kd.int .u8) 5 w w0.heap.size (fun k_ => (P0_ k_ ∨ w.heap.size ≤ k_)) u9000_ l0 from Kd.R_mono ho0 (fun k_ hk => (.inl hk)))
  have HK := Aside0.mk (Kept.refl w (fun k_ => P0_ k_))
  have HW0 := Aside0.mk hB.size
  have HB := Aside0.mk hB
  clear hB
  have H : (impl_put_int.l0 k l0 a1 a3 a2 0) = some r := h
  clear h
  have H' := Aside0.mk H
  clear H
  go_enter Tryd.func168, Tryd.ntmps168
  go_wp2
  go_loopg [10] k (fun kq v10 w' => ∃ (x0_1 : List Int) (x10_1 : Int), v10 = .int .i64 x10_1 ∧ Aside0 (impl_put_int.l0 kq x0_1 a1 a3 a2 x10_1 = some r) ∧ Aside0 (kq ≤ k) ∧ Aside0 (Kd.R (Kd.int .u8) 5 w' w0.heap.size (fun k_ => (P0_ k_ ∨ w.heap.size ≤ k_)) u9000_ x0_1) ∧ Aside0 (Kept w w' (fun k_ => P0_ k_)) ∧ Aside0 (Below w0.heap.size w0 w'))
  case atStart => exact ⟨(l0), (0), (by first | rfl | (simp; done) | (simp [*]; done)), H', ⟨Nat.le_refl _⟩, ⟨by (with_reducible repeat (first | apply Kd.R_alloc | apply Kd.R_drewN | apply Kd.R_drew)); exact HO0.out⟩, ⟨by repeat (first | (with_reducible first | exact HK.out | apply Kept.alloc | apply Kept.drewN | apply Kept.drew) | exact HK.out)⟩, ⟨by repeat (first | (with_reducible first | exact HB.out | apply below_alloc | apply pw_below_drewN | apply below_drew1) | exact HB.out)⟩⟩
  case round =>
    clear H'
    try clear c1
    try clear p2
    obtain ⟨x0_1, x10_1, rfl, HA, HK1, HO_0, HK, HB⟩ := hrel
    cases gk with
    | zero => exact absurd HA.out (by simp [impl_put_int.l0])
    | succ k1 =>
      have H := HA.out
      clear HA
      simp only [impl_put_int.l0] at H
      by_cases c5 : x10_1 < a2
      · rw [if_pos c5] at H
        have c5b0 : decide (x10_1 < a2) = true := decide_eq_true c5
        clear c5
        obtain ⟨ji6, hji6⟩ : ∃ j_ : Int, (wrap64 (8 * x10_1)) = j_ := ⟨_, rfl⟩
        replace H : (if 0 ≤ (ji6) then (if 0 ≤ (wrap64 (a1 + x10_1)) then (if (wrap64 (a1 + x10_1)) < (x0_1.length : Int) then (impl_put_int.l0 k1 (x0_1.set ((wrap64 (a1 + x10_1)) : Int).toNat ((shr .u64 (IntKind.u64.wrap (a3)) (ji6)) % 256)) a1 a3 a2 (wrap64 (x10_1 + 1))) else (none)) else (none)) else (none)) = some r := by first | (rw [hji6] at H; exact H) | (simp only [hji6] at H ⊢; exact H)
        have hji6w : (IntKind.i64.wrap (8 * x10_1)) = ji6 := (i64_w _).trans hji6
        by_cases c7 : 0 ≤ (ji6)
        · rw [if_pos c7] at H
          have c7b0 := eq_true c7
          have c7b1 : decide (0 ≤ (ji6)) = true := decide_eq_true c7
          clear c7
          obtain ⟨ji8, hji8⟩ : ∃ j_ : Int, (shr .u64 (IntKind.u64.wrap (a3)) (ji6)) = j_ := ⟨_, rfl⟩
          replace H : (if 0 ≤ (wrap64 (a1 + x10_1)) then (if (wrap64 (a1 + x10_1)) < (x0_1.length : Int) then (impl_put_int.l0 k1 (x0_1.set ((wrap64 (a1 + x10_1)) : Int).toNat ((ji8) % 256)) a1 a3 a2 (wrap64 (x10_1 + 1))) else (none)) else (none)) = some r := by first | (rw [hji8] at H; exact H) | (simp only [hji8] at H ⊢; exact H)
          have hji8_ : ((IntKind.u64.wrap (a3)) / 2 ^ min (ji6).toNat 64) = ji8 := hji8
          have hji8z : (ji6) ≤ 64 → ((IntKind.u64.wrap (a3)) / 2 ^ (ji6).toNat) = ji8 := shr_small hji8
          obtain ⟨ji9, hji9⟩ : ∃ j_ : Int, (wrap64 (a1 + x10_1)) = j_ := ⟨_, rfl⟩
          replace H : (if 0 ≤ (ji9) then (if (ji9) < (x0_1.length : Int) then (impl_put_int.l0 k1 (x0_1.set ((ji9) : Int).toNat ((ji8) % 256)) a1 a3 a2 (wrap64 (x10_1 + 1))) else (none)) else (none)) = some r := by first | (rw [hji9] at H; exact H) | (simp only [hji9] at H ⊢; exact H)
          have hji9w : (IntKind.i64.wrap (a1 + x10_1)) = ji9 := (i64_w _).trans hji9
          by_cases c10 : 0 ≤ (ji9)
          · rw [if_pos c10] at H
            have c10b0 : decide (0 ≤ (ji9)) = true := decide_eq_true c10
            clear c10
            by_cases c11 : (ji9) < (x0_1.length : Int)
            · rw [if_pos c11] at H
              have c11b0 : decide ((ji9) < (x0_1.length : Int)) = true := decide_eq_true c11
              clear c11
              obtain ⟨y150, hy150⟩ : ∃ y_ : List Int, y_ = (x0_1.set ((ji9) : Int).toNat ((ji8) % 256)) := ⟨_, rfl⟩
              replace H : (impl_put_int.l0 k1 y150 a1 a3 a2 (wrap64 (x10_1 + 1))) = some r := by first | (rw [hy150]; with_reducible exact H) | (have H2_ := (Option.bind_some _ _).symm.trans H; rw [hy150]; with_reducible exact H2_) | (have H2_ := (Option.bind_some _ _).symm.trans H; with_reducible exact H2_) | with_reducible exact H | (rw [hy150]; exact H) | exact H
              have Ny150 := Aside0.mk hy150
              clear hy150
              have H' := Aside0.mk H
              clear H
              have p12 : 0 ≤ ((ji9) : Int) := of_decide_eq_true (by first | (with_reducible assumption) | assumption)
              have q12 : ((ji9) : Int) < ((x0_1.length : Int) : Int) := of_decide_eq_true (by first | (with_reducible assumption) | assumption)
              obtain ⟨go12, co12, eo12, gb12, gl12, cl12, HG12⟩ := Kd.R_form HO_0.out (by omega)
              (first | cases eo12 | (injection eo12 with ea_ en_ ec_; (first | subst ea_ | (injection ea_ with ea_; subst ea_)); subst ec_; clear en_))
              have GB12 := Aside0.mk gb12
              have GG12 := Aside0.mk HG12
              clear gb12 gl12 HG12
              have HMgo12 := Aside0.mk (show (P0_ go12 ∨ w.heap.size ≤ go12) from (HO_0.out.1 _ rfl))
              obtain ⟨hx12_0, hf12_0⟩ := Kd.R_celln 0 HO_0.out ((ji9) : Int) p12 q12
              replace p12 := eq_true p12
              replace q12 := eq_true q12
              have HP13 := Kd.R_putg HO_0.out ((ji9) : Int) ((ji8) % 256)
              go_wp2_with (first | ((with_reducible refine gate_store (t := 5) (p := 23) rfl ?_); refine store_event (t := 5) (p := 23) (v := ?vo_w14) (w1 := (wr.setCell ⟨go12, ((ji9) : Int).toNat, none⟩ (.int .u8 ((ji8) % 256)))) ?hg ?ho ?hn ?hr ?_; (case ho => rfl); (case hg => rfl); (case hn => rfl); (case hr => first | (go_simp; done) | (go_simp; rfl)); intro w14 hw; have hg : wr.grownBy w14 (some go12) := (by rw [hw]; exact HP13.2); have hp_ : Kd.R (Kd.int .u8) 5 w14 w0.heap.size (fun k_ => (P0_ k_ ∨ w.heap.size ≤ k_)) (.slice (some ⟨go12, 0, none⟩) x0_1.length co12) y150 := (by rw [hw, Ny150.out]; exact HP13.1); clear HP13; have n0_ := Aside0.mk (hp_); have n1_ := Aside0.mk ((by rw [hw]; exact below_set (HB.out) GB12.out : Below w0.heap.size w0 w14)); have n2_ := Aside0.mk (Kept.of_grown (S := (fun k_ => P0_ k_)) hg (by repeat (first | (with_reducible first | exact HK.out | apply Kept.alloc | apply Kept.drewN | apply Kept.drew) | exact HK.out)) (fun k_ e_ => (HO_0.out.1 k_ e_))); clear HO_0; clear HB; clear HK; have HO_0 := n0_; have HB := n1_; have HK := n2_; clear n0_ n1_ n2_; clear hg hw hp_))
              go_roundg k1
              case measure => have := HK1.out; omega
              case rel => exact ⟨(y150), (wrap64 (x10_1 + 1)), (by first | rfl | (simp; done) | (simp [*]; done)), H', ⟨by have := HK1.out; omega⟩, ⟨by (with_reducible repeat (first | apply Kd.R_alloc | apply Kd.R_drewN | apply Kd.R_drew)); exact HO_0.out⟩, ⟨by repeat (first | (with_reducible first | exact HK.out | apply Kept.alloc | apply Kept.drewN | apply Kept.drew) | exact HK.out)⟩, ⟨by repeat (first | (with_reducible first | exact HB.out | apply below_alloc | apply pw_below_drewN | apply below_drew1) | exact HB.out)⟩⟩
            · rw [if_neg c11] at H
              exact absurd H (by simp)
          · rw [if_neg c10] at H
            exact absurd H (by simp)
        · rw [if_neg c7] at H
          exact absurd H (by simp)
      · rw [if_neg c5] at H
        have c5b0 : decide (x10_1 < a2) = false := decide_eq_false c5
        clear c5
        obtain rfl := Option.some.inj H
        go_wp2
        first | go_end0 | ((try simp only [Exit.inBlock, Exit.then]); refine bodyPost_ret (results_none rfl _ _ _) rfl ?_)
        exact ⟨by first | rfl | (simp [errW_none, errW_some] <;> rfl) | (simp [*, errW_none, errW_some] <;> rfl), by (with_reducible repeat (first | apply Kd.R_alloc | apply Kd.R_drewN | apply Kd.R_drew)); exact HO_0.out, by repeat (first | (with_reducible first | exact HB.out | apply below_alloc | apply pw_below_drewN | apply below_drew1) | exact HB.out), by repeat (first | (with_reducible first | exact HK.out | apply Kept.alloc | apply Kept.drewN | apply Kept.drew) | exact HK.out)⟩
open Go.Proofs.YtknlpjoidjgciaaDoorW Go.Proofs.YtknlpjoidjgciaaDoorW.PrintHand Go.Proofs.YtknlpjoidjgciaaDoorW.PrintHx
open Go.Proofs.YtknlpjoidjgciaaDoorW.PrintLe
theorem put_l0 (v : Int) (at_ size : Nat) (h0 : 0 ≤ v) (h1 : v ≤ 9223372036854775807) (h8 : size ≤ 8) : ∀ (d i k : Nat) (x0 : List Int), i + d = size → d < k → at_ + size ≤ x0.length → x0.length ≤ 1048576 → impl_put_int.l0 k x0 (at_ : Int) v (size : Int) (i : Int) = some (x0.take (at_ + i) ++ leB (v / 256 ^ i) d ++ x0.drop (at_ + size))
  | 0, i, k, x0, e1, e2, e3, e4 => by
    obtain ⟨k, rfl⟩ := sucK e2
    simp only [impl_put_int.l0]
    rw [if_neg (by omega), show at_ + i = at_ + size by omega]
    simp [leB]
  | d + 1, i, k, x0, e1, e2, e3, e4 => by
    obtain ⟨k, rfl⟩ := sucK e2
    simp only [impl_put_int.l0]
    have hw : wrap64 ((at_ : Int) + (i : Int)) = ((at_ + i : Nat) : Int) := by unfold wrap64; omega
    have h8i : wrap64 (8 * (i : Int)) = ((8 * i : Nat) : Int) := by unfold wrap64; omega
    rw [hw, h8i, if_pos (by omega), if_pos (by omega), if_pos (by omega), if_pos (by omega), w64n (by omega), put_l0 v at_ size h0 h1 h8 d (i + 1) k _ (by omega) (by omega) (by simpa using e3) (by simpa using e4)]
    have hv : (shr .u64 (IntKind.u64.wrap v) ((8 * i : Nat) : Int)) % 256 = v / 256 ^ i % 256 := by
      rw [wraps_u64 _ h0 (by omega)]
      unfold shr
      rw [Int.toNat_natCast, Nat.min_eq_left (by simp [IntKind.bits]; omega), Int.pow_mul, show (2 : Int) ^ 8 = 256 by decide]
    rw [hv, Int.toNat_natCast]
    congr 1
    have hlt : at_ + i < x0.length := by omega
    rw [show at_ + (i + 1) = (at_ + i) + 1 by omega, List.take_succ_eq_append_getElem (by simpa using hlt), List.getElem_set_self, List.take_set_of_le (Nat.le_refl _), List.drop_set_of_lt (by omega), leB, Int.ediv_ediv_of_nonneg (by have := p256 i; omega), ← Int.pow_succ]
    simp
theorem put_f (x0 : List Int) (at_ size : Nat) (v : Int) (h0 : 0 ≤ v) (h1 : v ≤ 9223372036854775807) (h8 : size ≤ 8) (hat : at_ + size ≤ x0.length) (hx : x0.length ≤ 1048576) (k : Nat) (hk : 8 < k) : impl_put_int.f k x0 (at_ : Int) (size : Int) v = some (x0.take at_ ++ leB v size ++ x0.drop (at_ + size)) := by
  unfold impl_put_int.f
  have h := put_l0 v at_ size h0 h1 h8 size 0 k x0 (by omega) (by omega) hat hx
  rw [Int.pow_zero, Int.ediv_one] at h
  exact h
def impl_Root_put.f (a0 l1 : List Int) : Option (List Int) := if rootGood a0 = true ∧ 64 ≤ l1.length ∧ l1.length ≤ 1048576 then some (rootBytes a0 ++ l1.drop 64) else none
theorem impl_Root_put.step (s : Int) (xs l1 : List Int) (j : Nat) (hx : xs.length = 14) (hj : j < 14) (hl : 64 ≤ l1.length) (p : Int) (hp : p = xs.getD j 0) :
    let ls := leB s 8 ++ flat4 (xs.take j) ++ l1.drop (8 + 4 * j)
    ls.take (8 + 4 * j) ++ leB p 4 ++ ls.drop (8 + 4 * j + 4) = leB s 8 ++ flat4 (xs.take (j + 1)) ++ l1.drop (8 + 4 * (j + 1)) := by
  intro ls
  have h1 : (leB s 8 ++ flat4 (xs.take j)).length = 8 + 4 * j := by rw [List.length_append, leB_length, flat4_length, List.length_take, hx, Nat.min_eq_left (by omega)]
  have e1 : ls.take (8 + 4 * j) = leB s 8 ++ flat4 (xs.take j) := by rw [← h1]; exact List.take_left
  have e2 : ls.drop (8 + 4 * j + 4) = l1.drop (8 + 4 * (j + 1)) := by
    show (leB s 8 ++ flat4 (xs.take j) ++ l1.drop (8 + 4 * j)).drop (8 + 4 * j + 4) = _
    rw [List.drop_append, h1, List.drop_eq_nil_of_le (by rw [h1]; omega), List.nil_append, List.drop_drop]
    congr 1
    omega
  rw [e1, e2, flat4_take xs j (by omega), hp, List.append_assoc (leB s 8)]
theorem impl_Root_put.len (s : Int) (xs l1 : List Int) (j : Nat) (hx : xs.length = 14) (hj : j < 14) (hl : 64 ≤ l1.length) : (leB s 8 ++ flat4 (xs.take j) ++ l1.drop (8 + 4 * j)).length = l1.length := by
  rw [List.length_append, List.length_append, leB_length, flat4_length, List.length_take, hx, Nat.min_eq_left (by omega), List.length_drop]
  omega
theorem impl_Root_put.at_ (j : Nat) (hj : j < 14) : wrap64 (8 + wrap64 (4 * (j : Int))) = ((8 + 4 * j : Nat) : Int) := by
  unfold wrap64
  omega
theorem below_then2 {B : Nat} {w w1 w2 : World} (h : Below B w w1) (hB : B ≤ w1.heap.size) (k : Below w1.heap.size w1 w2) : Below B w w2 := below_then h hB k
set_option maxHeartbeats 8000000 in
set_option maxRecDepth 100000 in
theorem impl_Root_put.calls (a0 : List Int) (n0 : a0.length = 15) (P0_ : Nat → Prop) (u9000_ : Value) (l1 : List Int) (r : List Int) (w0 w : World) (hB : Below w0.heap.size w0 w) (ho1 : Kd.R (Kd.int .u8) 5 w w0.heap.size P0_ u9000_ l1) (h : impl_Root_put.f a0 l1 = some r) :
    Calls Tryd.prog 169 #[.agg (nums .i64 a0).toArray, u9000_] w fun e w' => e = .returned (.tuple #[]) ∧ Kd.R (Kd.int .u8) 5 w' w0.heap.size P0_ u9000_ r ∧ Below w0.heap.size w0 w' ∧ Kept w w' (fun k_ => P0_ k_) := by
  unfold impl_Root_put.f at h
  by_cases hgood : rootGood a0 = true ∧ 64 ≤ l1.length ∧ l1.length ≤ 1048576
  case neg => rw [if_neg hgood] at h; cases h
  rw [if_pos hgood] at h
  obtain rfl := Option.some.inj h
  have N_ := Aside0.mk n0
  have HG := Aside0.mk hgood.1
  have HL := Aside0.mk hgood.2
  have hle := hB.size
  have HB0 := Aside0.mk hB
  obtain ⟨s0, Sz0⟩ : ∃ s0, Aside0 (w.heap.size = s0) := ⟨_, ⟨rfl⟩⟩
  have hs0 : s0 = w.heap.size := Sz0.out.symm
  have O0 := Aside0.mk (show Kd.R (Kd.int .u8) 5 w w0.heap.size (fun k => P0_ k ∧ k < s0) u9000_ l1 from Kd.R_mono (Kd.R_bound ho1) (fun k hk => ⟨hk.1, by rw [hs0]; exact hk.2.2.1⟩))
  have hlt0 : w0.heap.size ≤ s0 := by rw [hs0]; exact hle
  clear hs0
  have hu124 := Tryd.underlying124
  clear n0 h hgood ho1 hB
  obtain ⟨s, hs⟩ : ∃ s, s = a0.getD 0 0 := ⟨_, rfl⟩
  have hs1 : 0 ≤ s ∧ s ≤ 262144 := by rw [hs]; exact rootGood_size HG.out
  have HS := Aside0.mk hs
  have HP8 := Aside0.mk (show impl_put_int.f 20 l1 0 8 s = some (l1.take 0 ++ leB s 8 ++ l1.drop (0 + 8)) from put_f l1 0 8 s hs1.1 (by omega) (by decide) (by have := HL.out; omega) (by have := HL.out; omega) 20 (by decide))
  clear hs hs1
  obtain ⟨xs, hxs⟩ : ∃ xs, xs = seg a0 1 14 := ⟨_, rfl⟩
  have HP := Aside0.mk (show impl_Root_pointers.f a0 = some xs by rw [hxs]; exact if_pos N_.out)
  have HXL := Aside0.mk (show xs.length = 14 by rw [hxs]; exact part_len (n := 15) N_.out (by decide))
  have HXS := Aside0.mk hxs
  have HXR := Aside0.mk (show ∀ j, j < 14 → 0 ≤ xs.getD j 0 ∧ xs.getD j 0 < 2048 by rw [hxs]; exact fun j hj => rootGood_ptr HG.out j hj)
  clear hxs
  have hle0 : w0.heap.size ≤ s0 := hlt0
  go_enter Tryd.func169, Tryd.ntmps169
  go_wp2_with (first | ((with_reducible refine gate_dst (N := 2) rfl ?_); refine hx_box rfl 2 rfl 124 (.tmp 0) rfl Sz0 (.agg (nums .i64 a0).toArray) (nums .i64 a0).toArray rfl rfl ?_; intro w1 s1 L1 Sz1 b1 g_; have H1 := Aside0.mk g_; have HB1 := Aside0.mk (below_then2 HB0.out hle b1); have KP1 := Aside0.mk (Kept.of_below b1 P0_); have O1 := Aside0.mk (Kd.R_below O0.out b1); clear g_ b1 HB0 O0) | ((with_reducible refine gate_dst (N := 8) rfl ?_); refine hx_loadf rfl 3 (.tmp 7) rfl s0 0 rfl Tryd.underlying3 rfl H1.out (lt_len (n := 15) N_.out (by decide)) ?_; rw [← HS.out]) | ((with_reducible refine gate_dst (N := 9) rfl ?_); refine goesL_ (some 9) rfl rfl Tryd.func168 (by kernel_rfl) rfl #[u9000_, .int .i64 0, .int .i64 8, .int .i64 s] rfl (by (try simp only [List.map_toArray, List.map_cons, List.map_nil]); first | done | rfl) ?_; refine (impl_put_int.calls 20 (fun k => P0_ k ∧ k < s0) u9000_ l1 0 8 s _ w0 w1 HB1.out O1.out HP8.out).mono ?_; rintro e_ w2 ⟨rfl, R_, hb_, kp_⟩; refine ⟨_, rfl, ?_⟩; have O2 := own_same R_ O1.out rfl; have HB2 := Aside0.mk hb_; have KP2 := Aside0.mk (KP1.out.then_ kp_ (fun k hk => .inl hk.1)); have H2 := Aside0.mk (blk_kept H1.out kp_ (fun hk => by have := hk.2; omega)); obtain ⟨s2, L2, Sz2⟩ := size_letter Sz1 kp_; clear R_ hb_ kp_ O1 HB1 KP1 H1) | ((with_reducible refine gate_dst (N := 10) rfl ?_); refine hx_load rfl 124 (.tmp 2) rfl s0 15 rfl Tryd.underlying124 rfl (by kernel_rfl) H2.out (nums_size _ _ _ N_.out) ?_) | ((with_reducible refine gate_dst (N := 11) rfl ?_); refine goesL_ (some 11) rfl rfl Tryd.func184 (by kernel_rfl) rfl #[.agg (nums .i64 a0).toArray] rfl (by (try simp only [List.map_toArray, List.map_cons, List.map_nil]); first | done | rfl) ?_; refine (impl_Root_pointers.calls a0 N_.out xs _ HP.out).mono ?_; rintro e_ w3 ⟨v0_, rfl, R_, b_⟩; obtain ⟨A11, c11, rfl⟩ := Kd.R_slice R_; refine ⟨_, rfl, ?_⟩; obtain ⟨s3, L3, Sz3⟩ := size_letter Sz2 (kept_below b_); have OP := own_btw (B := w0.heap.size) R_ Sz2.out Sz3 (by have := Sz2.out; omega); have O3 := Aside0.mk (Kd.R_below O2.out b_); have HB3 := Aside0.mk (below_then2 HB2.out (by have := Sz2.out; omega) b_); have KP3 := Aside0.mk (KP2.out.below b_); clear R_ b_ O2 HB2 KP2 H2))
  (try simp only [Act.put, List.setIfInBounds_toArray, List.set_cons_succ, List.set_cons_zero])
  go_loopw [13] (fun v13 wr => ∃ j : Nat, v13 = .int .i64 (j : Int) ∧ Aside0 (j ≤ 14) ∧ Aside0 (Kd.R (Kd.int .u8) 5 wr w0.heap.size (fun k => P0_ k ∧ k < s0) u9000_ (leB s 8 ++ flat4 (xs.take j) ++ l1.drop (8 + 4 * j))) ∧ Aside0 (Kd.R (Kd.int .i64) 3 wr w0.heap.size (Btw s2 s3) (.slice A11 xs.length c11) xs) ∧ Aside0 (Below w0.heap.size w0 wr) ∧ Aside0 (Kept w wr P0_)) (fun v13 _ => 14 - (intOf v13).toNat)
  case atStart => exact ⟨0, rfl, ⟨by omega⟩, ⟨by have := O3.out; simpa [flat4] using this⟩, OP, HB3, KP3⟩
  case round =>
    clear O3 OP HB3 KP3
    obtain ⟨j, rfl, hj, OO0, OP, HB, KP⟩ := hrel
    by_cases c9 : j < 14
    · have c9b0 : decide ((j : Int) < (xs.length : Int)) = true := decide_eq_true (by rw [HXL.out]; omega)
      have c9b1 : decide (j < xs.length) = true := decide_eq_true (by rw [HXL.out]; omega)
      have p112 : 0 ≤ (j : Int) := by omega
      have q112 : (j : Int) < (xs.length : Int) := by rw [HXL.out]; omega
      obtain ⟨ad112, e112, hx112⟩ := Kd.at_int (Kd.R_reads' OP.out).2.2 (j : Int) p112 q112
      cases e112
      rw [Int.toNat_natCast] at hx112
      replace p112 := eq_true p112
      replace q112 := eq_true q112
      have q113 : (j < xs.length) = True := eq_true (by rw [HXL.out]; omega)
      obtain ⟨p, hp⟩ : ∃ p, p = rd xs (j : Int) := ⟨_, rfl⟩
      rw [← hp] at hx112
      have HPV := Aside0.mk (show p = xs.getD j 0 by rw [hp, rd, Int.toNat_natCast])
      have hpr : 0 ≤ p ∧ p < 2048 := by rw [HPV.out]; exact HXR.out j c9
      obtain ⟨ls, hls⟩ : ∃ ls, ls = leB s 8 ++ flat4 (xs.take j) ++ l1.drop (8 + 4 * j) := ⟨_, rfl⟩
      have hll : ls.length = l1.length := by rw [hls]; exact impl_Root_put.len s xs l1 j HXL.out c9 HL.out.1
      obtain ⟨at_, hat⟩ : ∃ a, a = wrap64 (8 + wrap64 (4 * (j : Int))) := ⟨_, rfl⟩
      have hat2 : at_ = ((8 + 4 * j : Nat) : Int) := by rw [hat]; exact impl_Root_put.at_ j c9
      have HP4 := Aside0.mk (show impl_put_int.f 20 ls at_ 4 p = some (ls.take (8 + 4 * j) ++ leB p 4 ++ ls.drop (8 + 4 * j + 4)) by rw [hat2]; exact put_f ls (8 + 4 * j) 4 p hpr.1 (Int.le_of_lt (Int.lt_trans hpr.2 (by decide))) (by decide) (by rw [hll]; have h1_ := HL.out.1; omega) (by rw [hll]; exact HL.out.2) 20 (by decide))
      have HAT := Aside0.mk hat
      have C9 := Aside0.mk c9
      have oo := OO0.out
      rw [← hls] at oo
      have OO := Aside0.mk oo
      have HLS := Aside0.mk hls
      clear hp c9 hpr hls oo OO0 hat hat2 hll
      go_wp2_with (first | ((with_reducible refine gate_dst (N := 23) rfl ?_); refine goesL_ (some 23) rfl rfl Tryd.func168 (by kernel_rfl) rfl #[u9000_, .int .i64 at_, .int .i64 4, .int .i64 p] rfl (by (try simp only [List.map_toArray, List.map_cons, List.map_nil]); first | done | rfl | (rw [HAT.out]; rfl)) ?_; refine (impl_put_int.calls 20 (fun k => P0_ k ∧ k < s0) u9000_ ls at_ 4 p _ w0 _ HB.out OO.out HP4.out).mono ?_; rintro e_ w4 ⟨rfl, R_, hb_, kp_⟩; refine ⟨_, rfl, ?_⟩; have OO4 := own_same R_ OO.out rfl; have HB4 := Aside0.mk hb_; have KP4 := Aside0.mk (KP.out.then_ kp_ (fun k hk => .inl hk.1)); have OP4 := Aside0.mk (Kd.R_kept OP.out kp_ (fun k hk hk2 => by have h1_ := hk.1; have h2_ := hk2.2; omega)); clear R_ hb_ kp_ OO HB KP OP))
      go_roundw
      case rel =>
        refine ⟨j + 1, by rw [show wrap64 ((j : Int) + 1) = ((j + 1 : Nat) : Int) by (have := C9.out; unfold wrap64; omega)], ⟨by have := C9.out; omega⟩, ⟨?_⟩, OP4, HB4, KP4⟩
        have ho := OO4.out
        have e_ := impl_Root_put.step s xs l1 j HXL.out C9.out HL.out.1 p HPV.out
        simp only [] at e_
        rw [← HLS.out] at e_
        rw [e_] at ho
        exact ho
      case measure =>
        rw [show wrap64 ((j : Int) + 1) = ((j + 1 : Nat) : Int) by (have := C9.out; unfold wrap64; omega)]
        simp only [intOf, Int.toNat_natCast]
        have := C9.out
        omega
    · obtain rfl : j = 14 := by have := hj.out; omega
      have c9b0 : decide ((14 : Int) < (xs.length : Int)) = false := decide_eq_false (by rw [HXL.out]; decide)
      have c9b1 : decide (14 < xs.length) = false := decide_eq_false (by rw [HXL.out]; decide)
      go_wp2
      have ho := OO0.out
      rw [List.take_of_length_le (by rw [HXL.out]; exact Nat.le_refl _), HXS.out, HS.out] at ho
      refine Go.Great.bodyPost_end0 rfl rfl ⟨rfl, Kd.R_mono ho (fun _ hk => hk.1), HB.out, KP.out⟩
def impl_put_uint32.l0 : Nat → List Int → Int → Int → Int → Int → Option (List Int)
  | 0, _, _, _, _, _ => none
  | k + 1, x0, x1, x3, x9, x10 => if x10 < x9 then (if 0 ≤ (wrap64 (8 * x10)) then (if 0 ≤ (wrap64 (x1 + x10)) then (if (wrap64 (x1 + x10)) < (x0.length : Int) then (impl_put_uint32.l0 k (x0.set ((wrap64 (x1 + x10)) : Int).toNat ((shr .u64 (IntKind.u64.wrap (x3)) (wrap64 (8 * x10))) % 256)) x1 x3 x9 (wrap64 (x10 + 1))) else (none)) else (none)) else (none)) else (some x0)
def impl_put_uint32.f (k : Nat) (l0 : List Int) (a1 : Int) (a2 : Int) (a3 : Int) : Option (List Int) := impl_put_uint32.l0 k l0 a1 a3 a2 0
theorem impl_put_uint32.mono_l : ∀ k, (∀ y0 y1 y2 y3 y4, LeO (impl_put_uint32.l0 k y0 y1 y2 y3 y4) (impl_put_uint32.l0 (k + 1) y0 y1 y2 y3 y4))
  | 0 => fun _ _ _ _ _ r h => by simp [impl_put_uint32.l0] at h
  | k + 1 => by
    have ih0 := impl_put_uint32.mono_l k
    · intro y0 y1 y2 y3 y4
      unfold impl_put_uint32.l0
      repeat' first
      | (with_reducible exact ih0 _ _ _ _ _)
      | (with_reducible exact LeO.refl _)
      | (with_reducible exact LeO.none _)
      | (with_reducible refine LeO.ite ?_ ?_)
      | (with_reducible refine LeO.bind ?_ (fun _ => ?_))
      | exact ih0 _ _ _ _ _
      | exact LeO.none _
      | refine LeO.ite ?_ ?_
      | refine LeO.bind ?_ (fun _ => ?_)
theorem impl_put_uint32.mono : ∀ a0 a1 a2 a3 k, LeO (impl_put_uint32.f k a0 a1 a2 a3) (impl_put_uint32.f (k + 1) a0 a1 a2 a3) := by
  intro a0 a1 a2 a3 k
  have ih0 := impl_put_uint32.mono_l k
  unfold impl_put_uint32.f
  repeat' first
      | (with_reducible exact ih0 _ _ _ _ _)
      | (with_reducible exact LeO.refl _)
      | (with_reducible exact LeO.none _)
      | (with_reducible refine LeO.ite ?_ ?_)
      | (with_reducible refine LeO.bind ?_ (fun _ => ?_))
      | exact ih0 _ _ _ _ _
      | exact LeO.none _
      | refine LeO.ite ?_ ?_
      | refine LeO.bind ?_ (fun _ => ?_)
set_option maxHeartbeats 8000000 in
set_option maxRecDepth 100000 in
theorem impl_put_uint32.calls (k : Nat) (P0_ : Nat → Prop) (u9000_ : Value) (l0 : List Int) (a1 : Int) (a2 : Int) (a3 : Int) (r : List Int) (w0 w : World) (hB : Below w0.heap.size w0 w) (ho0 : Kd.R (Kd.int .u8) 5 w w0.heap.size P0_ u9000_ l0) (h : impl_put_uint32.f k l0 a1 a2 a3 = some r) :
    Calls Tryd.prog 186 #[u9000_, .int .i64 a1, .int .i64 a2, .int .u32 a3] w fun e w' => e = .returned (.tuple #[]) ∧ Kd.R (Kd.int .u8) 5 w' w0.heap.size (fun k_ => (P0_ k_ ∨ w.heap.size ≤ k_)) u9000_ r ∧ Below w0.heap.size w0 w' ∧ Kept w w' (fun k_ => P0_ k_) := by
  have HO0 := Aside0.mk (show Kd.R (Kd.int .u8) 5 w w0.heap.size (fun k_ => (P0_ k_ ∨ w.heap.size ≤ k_)) u9000_ l0 from Kd.R_mono ho0 (fun k_ hk => (.inl hk)))
  have HK := Aside0.mk (Kept.refl w (fun k_ => P0_ k_))
  have HW0 := Aside0.mk hB.size
  have HB := Aside0.mk hB
  clear hB
  have H : (impl_put_uint32.l0 k l0 a1 a3 a2 0) = some r := h
  clear h
  have H' := Aside0.mk H
  clear H
  go_enter Tryd.func186, Tryd.ntmps186
  go_wp2
  go_loopg [10] k (fun kq v10 w' => ∃ (x0_1 : List Int) (x10_1 : Int), v10 = .int .i64 x10_1 ∧ Aside0 (impl_put_uint32.l0 kq x0_1 a1 a3 a2 x10_1 = some r) ∧ Aside0 (kq ≤ k) ∧ Aside0 (Kd.R (Kd.int .u8) 5 w' w0.heap.size (fun k_ => (P0_ k_ ∨ w.heap.size ≤ k_)) u9000_ x0_1) ∧ Aside0 (Kept w w' (fun k_ => P0_ k_)) ∧ Aside0 (Below w0.heap.size w0 w'))
  case atStart => exact ⟨(l0), (0), (by first | rfl | (simp; done) | (simp [*]; done)), H', ⟨Nat.le_refl _⟩, ⟨by (with_reducible repeat (first | apply Kd.R_alloc | apply Kd.R_drewN | apply Kd.R_drew)); exact HO0.out⟩, ⟨by repeat (first | (with_reducible first | exact HK.out | apply Kept.alloc | apply Kept.drewN | apply Kept.drew) | exact HK.out)⟩, ⟨by repeat (first | (with_reducible first | exact HB.out | apply below_alloc | apply pw_below_drewN | apply below_drew1) | exact HB.out)⟩⟩
  case round =>
    clear H'
    try clear c1
    try clear p2
    obtain ⟨x0_1, x10_1, rfl, HA, HK1, HO_0, HK, HB⟩ := hrel
    cases gk with
    | zero => exact absurd HA.out (by simp [impl_put_uint32.l0])
    | succ k1 =>
      have H := HA.out
      clear HA
      simp only [impl_put_uint32.l0] at H
      by_cases c5 : x10_1 < a2
      · rw [if_pos c5] at H
        have c5b0 : decide (x10_1 < a2) = true := decide_eq_true c5
        clear c5
        obtain ⟨ji6, hji6⟩ : ∃ j_ : Int, (wrap64 (8 * x10_1)) = j_ := ⟨_, rfl⟩
        replace H : (if 0 ≤ (ji6) then (if 0 ≤ (wrap64 (a1 + x10_1)) then (if (wrap64 (a1 + x10_1)) < (x0_1.length : Int) then (impl_put_uint32.l0 k1 (x0_1.set ((wrap64 (a1 + x10_1)) : Int).toNat ((shr .u64 (IntKind.u64.wrap (a3)) (ji6)) % 256)) a1 a3 a2 (wrap64 (x10_1 + 1))) else (none)) else (none)) else (none)) = some r := by first | (rw [hji6] at H; exact H) | (simp only [hji6] at H ⊢; exact H)
        have hji6w : (IntKind.i64.wrap (8 * x10_1)) = ji6 := (i64_w _).trans hji6
        by_cases c7 : 0 ≤ (ji6)
        · rw [if_pos c7] at H
          have c7b0 := eq_true c7
          have c7b1 : decide (0 ≤ (ji6)) = true := decide_eq_true c7
          clear c7
          obtain ⟨ji8, hji8⟩ : ∃ j_ : Int, (shr .u64 (IntKind.u64.wrap (a3)) (ji6)) = j_ := ⟨_, rfl⟩
          replace H : (if 0 ≤ (wrap64 (a1 + x10_1)) then (if (wrap64 (a1 + x10_1)) < (x0_1.length : Int) then (impl_put_uint32.l0 k1 (x0_1.set ((wrap64 (a1 + x10_1)) : Int).toNat ((ji8) % 256)) a1 a3 a2 (wrap64 (x10_1 + 1))) else (none)) else (none)) = some r := by first | (rw [hji8] at H; exact H) | (simp only [hji8] at H ⊢; exact H)
          have hji8_ : ((IntKind.u64.wrap (a3)) / 2 ^ min (ji6).toNat 64) = ji8 := hji8
          have hji8z : (ji6) ≤ 64 → ((IntKind.u64.wrap (a3)) / 2 ^ (ji6).toNat) = ji8 := shr_small hji8
          obtain ⟨ji9, hji9⟩ : ∃ j_ : Int, (wrap64 (a1 + x10_1)) = j_ := ⟨_, rfl⟩
          replace H : (if 0 ≤ (ji9) then (if (ji9) < (x0_1.length : Int) then (impl_put_uint32.l0 k1 (x0_1.set ((ji9) : Int).toNat ((ji8) % 256)) a1 a3 a2 (wrap64 (x10_1 + 1))) else (none)) else (none)) = some r := by first | (rw [hji9] at H; exact H) | (simp only [hji9] at H ⊢; exact H)
          have hji9w : (IntKind.i64.wrap (a1 + x10_1)) = ji9 := (i64_w _).trans hji9
          by_cases c10 : 0 ≤ (ji9)
          · rw [if_pos c10] at H
            have c10b0 : decide (0 ≤ (ji9)) = true := decide_eq_true c10
            clear c10
            by_cases c11 : (ji9) < (x0_1.length : Int)
            · rw [if_pos c11] at H
              have c11b0 : decide ((ji9) < (x0_1.length : Int)) = true := decide_eq_true c11
              clear c11
              obtain ⟨y151, hy151⟩ : ∃ y_ : List Int, y_ = (x0_1.set ((ji9) : Int).toNat ((ji8) % 256)) := ⟨_, rfl⟩
              replace H : (impl_put_uint32.l0 k1 y151 a1 a3 a2 (wrap64 (x10_1 + 1))) = some r := by first | (rw [hy151]; with_reducible exact H) | (have H2_ := (Option.bind_some _ _).symm.trans H; rw [hy151]; with_reducible exact H2_) | (have H2_ := (Option.bind_some _ _).symm.trans H; with_reducible exact H2_) | with_reducible exact H | (rw [hy151]; exact H) | exact H
              have Ny151 := Aside0.mk hy151
              clear hy151
              have H' := Aside0.mk H
              clear H
              have p12 : 0 ≤ ((ji9) : Int) := of_decide_eq_true (by first | (with_reducible assumption) | assumption)
              have q12 : ((ji9) : Int) < ((x0_1.length : Int) : Int) := of_decide_eq_true (by first | (with_reducible assumption) | assumption)
              obtain ⟨go12, co12, eo12, gb12, gl12, cl12, HG12⟩ := Kd.R_form HO_0.out (by omega)
              (first | cases eo12 | (injection eo12 with ea_ en_ ec_; (first | subst ea_ | (injection ea_ with ea_; subst ea_)); subst ec_; clear en_))
              have GB12 := Aside0.mk gb12
              have GG12 := Aside0.mk HG12
              clear gb12 gl12 HG12
              have HMgo12 := Aside0.mk (show (P0_ go12 ∨ w.heap.size ≤ go12) from (HO_0.out.1 _ rfl))
              obtain ⟨hx12_0, hf12_0⟩ := Kd.R_celln 0 HO_0.out ((ji9) : Int) p12 q12
              replace p12 := eq_true p12
              replace q12 := eq_true q12
              have HP13 := Kd.R_putg HO_0.out ((ji9) : Int) ((ji8) % 256)
              go_wp2_with (first | ((with_reducible refine gate_store (t := 5) (p := 23) rfl ?_); refine store_event (t := 5) (p := 23) (v := ?vo_w14) (w1 := (wr.setCell ⟨go12, ((ji9) : Int).toNat, none⟩ (.int .u8 ((ji8) % 256)))) ?hg ?ho ?hn ?hr ?_; (case ho => rfl); (case hg => rfl); (case hn => rfl); (case hr => first | (go_simp; done) | (go_simp; rfl)); intro w14 hw; have hg : wr.grownBy w14 (some go12) := (by rw [hw]; exact HP13.2); have hp_ : Kd.R (Kd.int .u8) 5 w14 w0.heap.size (fun k_ => (P0_ k_ ∨ w.heap.size ≤ k_)) (.slice (some ⟨go12, 0, none⟩) x0_1.length co12) y151 := (by rw [hw, Ny151.out]; exact HP13.1); clear HP13; have n0_ := Aside0.mk (hp_); have n1_ := Aside0.mk ((by rw [hw]; exact below_set (HB.out) GB12.out : Below w0.heap.size w0 w14)); have n2_ := Aside0.mk (Kept.of_grown (S := (fun k_ => P0_ k_)) hg (by repeat (first | (with_reducible first | exact HK.out | apply Kept.alloc | apply Kept.drewN | apply Kept.drew) | exact HK.out)) (fun k_ e_ => (HO_0.out.1 k_ e_))); clear HO_0; clear HB; clear HK; have HO_0 := n0_; have HB := n1_; have HK := n2_; clear n0_ n1_ n2_; clear hg hw hp_))
              go_roundg k1
              case measure => have := HK1.out; omega
              case rel => exact ⟨(y151), (wrap64 (x10_1 + 1)), (by first | rfl | (simp; done) | (simp [*]; done)), H', ⟨by have := HK1.out; omega⟩, ⟨by (with_reducible repeat (first | apply Kd.R_alloc | apply Kd.R_drewN | apply Kd.R_drew)); exact HO_0.out⟩, ⟨by repeat (first | (with_reducible first | exact HK.out | apply Kept.alloc | apply Kept.drewN | apply Kept.drew) | exact HK.out)⟩, ⟨by repeat (first | (with_reducible first | exact HB.out | apply below_alloc | apply pw_below_drewN | apply below_drew1) | exact HB.out)⟩⟩
            · rw [if_neg c11] at H
              exact absurd H (by simp)
          · rw [if_neg c10] at H
            exact absurd H (by simp)
        · rw [if_neg c7] at H
          exact absurd H (by simp)
      · rw [if_neg c5] at H
        have c5b0 : decide (x10_1 < a2) = false := decide_eq_false c5
        clear c5
        obtain rfl := Option.some.inj H
        go_wp2
        first | go_end0 | ((try simp only [Exit.inBlock, Exit.then]); refine bodyPost_ret (results_none rfl _ _ _) rfl ?_)
        exact ⟨by first | rfl | (simp [errW_none, errW_some] <;> rfl) | (simp [*, errW_none, errW_some] <;> rfl), by (with_reducible repeat (first | apply Kd.R_alloc | apply Kd.R_drewN | apply Kd.R_drew)); exact HO_0.out, by repeat (first | (with_reducible first | exact HB.out | apply below_alloc | apply pw_below_drewN | apply below_drew1) | exact HB.out), by repeat (first | (with_reducible first | exact HK.out | apply Kept.alloc | apply Kept.drewN | apply Kept.drew) | exact HK.out)⟩
end Go.Proofs.YtknlpjoidjgciaaDoor.PFnExactSnapshots
