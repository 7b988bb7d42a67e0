/- PFnExactSnapshotsx9: functions of the law, walked; written by a program of this session. No condition. -/
import Derived.Test.YtknlpjoidjgciaaDoorQPFnExactSnapshotsx0
import Derived.Test.YtknlpjoidjgciaaDoorQPFnExactSnapshotsx1
import Derived.Test.YtknlpjoidjgciaaDoorQPFnExactSnapshotsx2
import Derived.Test.YtknlpjoidjgciaaDoorQPFnExactSnapshotsx7
import Derived.Test.YtknlpjoidjgciaaDoorQPFnExactSnapshotsx8
namespace Go.Proofs.YtknlpjoidjgciaaDoor.PFnExactSnapshots
open Go.RowKit Go.Proofs.YtknlpjoidjgciaaDoorW.PrintWords Go.Proofs.YtknlpjoidjgciaaDoorW.PrintLast Go.Proofs.YtknlpjoidjgciaaDoorW.PrintMore
attribute [local go_sem] max2_int min2_int max_two min_two max_three min_three max_four min_four
set_option linter.unusedVariables false
set_option linter.unusedSimpArgs false
open Go.Proofs.YtknlpjoidjgciaaDoorW Go.Proofs.YtknlpjoidjgciaaDoorW.PrintHand Go.Proofs.YtknlpjoidjgciaaDoorW.PrintHx
open Go.Proofs.YtknlpjoidjgciaaDoorW.PrintLe Go.Proofs.YtknlpjoidjgciaaDoorW.PrintGrow Go.Proofs.YtknlpjoidjgciaaDoorW.PrintDec Go.Proofs.YtknlpjoidjgciaaDoorW.PrintIno Go.Proofs.YtknlpjoidjgciaaDoorW.PrintTab2 Go.Proofs.YtknlpjoidjgciaaDoorW.PrintTab3 Go.Proofs.YtknlpjoidjgciaaDoorW.PrintFsi Go.Proofs.YtknlpjoidjgciaaDoorW.PrintFsb Go.Proofs.YtknlpjoidjgciaaDoorW.PrintFsd Go.Proofs.YtknlpjoidjgciaaDoorW.PrintCrc Go.Proofs.YtknlpjoidjgciaaDoorW.PrintSnp Go.Proofs.YtknlpjoidjgciaaDoorW.PrintSnd
set_option maxHeartbeats 8000000 in
set_option maxRecDepth 100000 in
theorem spec_DecodeSnap.calls (A0 : Option Addr) (c0 : Nat) (l0 : List Int) (k : Nat) (c : Int) (hck : spec_CheckName.f k (nameS l0) = some c) (hcz : c = 0 → (nameS l0).size ≤ 26) (x1 : Int) (s1 : ByteArray) (p1 q1 : Int) (r1 : List Int) (k1 : Int) (w : World) (hr0 : Kd.C (Kd.int .u8) w A0 l0.length l0) (hc0 : l0.length ≤ c0) (hby : ∀ x ∈ l0, 0 ≤ x ∧ x ≤ 255) (h : snapA c l0 = (x1, s1, p1, q1, r1, k1)) :
    Calls Tryd.prog 79 #[.slice A0 l0.length c0] w fun e w' => e = .returned (.tuple #[.agg (snapC x1 s1 p1 q1 r1).toArray, .int .i64 k1]) ∧ Below w.heap.size w w' := by
  unfold snapA at h
  have HBY : Aside0 (Byt l0) := ⟨hby⟩
  have HR0 := Aside0.mk hr0
  have HC0 := Aside0.mk hc0
  have HCK := Aside0.mk hck
  have HCZ := Aside0.mk hcz
  clear hby hr0 hc0 hck hcz
  have Z131 : ∀ w, (zeroValue 131).run Tryd.prog w = .ok (.agg (snapC 0 ByteArray.empty 0 0 (List.replicate 15 0)).toArray) w := fun _ => by kernel_rfl
  have HB0 : Aside0 (Below w.heap.size w w) := ⟨Below.refl _ _⟩
  obtain ⟨s0, Sz0⟩ : ∃ s0, Aside0 (w.heap.size = s0) := ⟨_, ⟨rfl⟩⟩
  have hw0 : w.heap.size ≤ s0 := Nat.le_of_eq Sz0.out
  have hw1 : s0 ≤ w.heap.size := Nat.le_of_eq Sz0.out.symm
  by_cases hl : l0.length = 512
  case neg =>
    have hd : decS (l0.getD 8 0) (nameS l0) (gcap (seg l0 40 8)) (gcap (seg l0 48 8)) (rootA (seg l0 56 64)) c l0 = (0, ByteArray.empty, 0, 0, (List.replicate 15 0), 21) := by unfold decS; rw [if_neg (fun h_ => hl h_.1)]
    rw [hd] at h
    simp only [Prod.mk.injEq] at h
    obtain ⟨rfl, rfl, rfl, rfl, rfl, rfl⟩ := h
    clear hd
    have k0 : ((l0.length : Int) != 512) = true := bne_iff_ne.2 (by omega)
    clear hl
    go_enter Tryd.func79, Tryd.ntmps79
    go_wp2_with (first | ((with_reducible refine gate_dst (N := 2) rfl ?_); refine hx_alloc rfl 2 rfl 131 rfl Sz0 (.agg (snapC 0 ByteArray.empty 0 0 (List.replicate 15 0)).toArray) (snapC 0 ByteArray.empty 0 0 (List.replicate 15 0)).toArray Z131 (by simp [Value.cells]) ?_; intro w1 s1 Ls1 Ss1 b_ g_; have H2 := Aside0.mk g_; have HB1 := Aside0.mk (below_then HB0.out HB0.out.size b_); clear b_ g_ HB0) | ((with_reducible refine gate_store (t := 131) (p := 2) (v := .tmp 16) rfl ?_); refine hx_store rfl rfl 131 (.tmp 2) (.tmp 16) rfl s0 19 rfl (snapC 0 ByteArray.empty 0 0 (List.replicate 15 0)).toArray rfl (by kernel_rfl) snapZ_size (snapC_one _ _ _ _ _) H2.out snapZ_size ?_; intro we t_ gg_; have HE := Aside0.mk gg_; have HEB := Aside0.mk (t_.below HB1.out (by omega)); clear t_ gg_ H2 HB1 ))
    exact bodyPost_ret (results_ct rfl _ _ s0 131 (snapC 0 ByteArray.empty 0 0 (List.replicate 15 0)).toArray (0, 0) _ rfl HE.out Tryd.underlying131 rfl (by kernel_rfl)) rfl ⟨rfl, HEB.out⟩
  have k0 : ((l0.length : Int) != 512) = false := by rw [hl]; rfl
  have HL := Aside0.mk hl
  obtain ⟨ad, rfl, _⟩ := Kd.at_int HR0.out 9 (by decide) (by rw [hl]; decide)
  obtain ⟨v9, h9⟩ : ∃ v, v = l0.getD 9 0 := ⟨_, rfl⟩
  have H9 := Aside0.mk (show rd l0 9 = v9 by rw [h9]; exact rdN l0 9)
  have R9 := Aside0.mk (show 0 ≤ v9 ∧ v9 ≤ 255 by rw [h9]; exact (one_byte HBY.out 9 (by omega)).2)
  have q9 : ((9 : Int) < (l0.length : Int)) = True := eq_true (by omega)
  have q9n : (9 < l0.length) = True := eq_true (by omega)
  by_cases hb : 26 < v9
  case pos =>
    have hd := snap_long hl (by rw [← h9]; exact hb) (l0.getD 8 0) (gcap (seg l0 40 8)) (gcap (seg l0 48 8)) (rootA (seg l0 56 64)) c
    rw [hd] at h
    simp only [Prod.mk.injEq] at h
    obtain ⟨rfl, rfl, rfl, rfl, rfl, rfl⟩ := h
    have cb0 : decide (26 < v9) = true := decide_eq_true hb
    clear hd hl h9 hb
    go_enter Tryd.func79, Tryd.ntmps79
    go_wp2_with (first | ((with_reducible refine gate_dst (N := 2) rfl ?_); refine hx_alloc rfl 2 rfl 131 rfl Sz0 (.agg (snapC 0 ByteArray.empty 0 0 (List.replicate 15 0)).toArray) (snapC 0 ByteArray.empty 0 0 (List.replicate 15 0)).toArray Z131 (by simp [Value.cells]) ?_; intro w1 s1 Ls1 Ss1 b_ g_; have H2 := Aside0.mk g_; have HB1 := Aside0.mk (below_then HB0.out HB0.out.size b_); clear b_ g_ HB0; obtain ⟨ad9_, e9_, hx9_⟩ := Kd.at_int (Kd.C_below HR0.out HB1.out) 9 (by decide) (by rw [HL.out]; decide); cases e9_; rw [H9.out] at hx9_; have hx9b_ : w1.cell? { block := ad.block, off := ad.off + 9 } = some (.int .u8 v9) := (by simpa [Addr.add] using hx9_); clear hx9_) | ((with_reducible refine gate_store (t := 131) (p := 2) (v := .tmp 16) rfl ?_); refine hx_store rfl rfl 131 (.tmp 2) (.tmp 16) rfl s0 19 rfl (snapC 0 ByteArray.empty 0 0 (List.replicate 15 0)).toArray rfl (by kernel_rfl) snapZ_size (snapC_one _ _ _ _ _) H2.out snapZ_size ?_; intro we t_ gg_; have HE := Aside0.mk gg_; have HEB := Aside0.mk (t_.below HB1.out (by omega)); clear t_ gg_ H2 HB1 ))
    exact bodyPost_ret (results_ct rfl _ _ s0 131 (snapC 0 ByteArray.empty 0 0 (List.replicate 15 0)).toArray (0, 0) _ rfl HE.out Tryd.underlying131 rfl (by kernel_rfl)) rfl ⟨rfl, HEB.out⟩
  have cb0 : decide (26 < v9) = false := decide_eq_false hb
  obtain ⟨x, hx⟩ : ∃ z, z = l0.getD 8 0 := ⟨_, rfl⟩
  obtain ⟨s, hs⟩ : ∃ z, z = nameS l0 := ⟨_, rfl⟩
  obtain ⟨p, hp⟩ : ∃ z, z = gcap (seg l0 40 8) := ⟨_, rfl⟩
  obtain ⟨q, hq⟩ : ∃ z, z = gcap (seg l0 48 8) := ⟨_, rfl⟩
  obtain ⟨r, hr⟩ : ∃ z, z = rootA (seg l0 56 64) := ⟨_, rfl⟩
  have NR := Aside0.mk (show r.length = 15 by rw [hr]; exact rootOf_length _ _)
  have H8 := Aside0.mk (show rd l0 8 = x by rw [hx]; exact rdN l0 8)
  have R8 := Aside0.mk (show 0 ≤ x ∧ x ≤ 255 by rw [hx]; exact (one_byte HBY.out 8 (by omega)).2)
  have HCKs := Aside0.mk (show spec_CheckName.f k s = some c by rw [hs]; exact HCK.out)
  have HCZs := Aside0.mk (show c = 0 → s.size ≤ 26 by rw [hs]; exact HCZ.out)
  rw [← hx, ← hs, ← hp, ← hq, ← hr] at h
  obtain ⟨m, hm⟩ : ∃ m, m = nameLen l0 := ⟨_, rfl⟩
  have hmv : v9 = (m : Int) := by rw [hm, ← name_min (l := l0) (by rw [← h9]; exact R9.out.1), ← h9, if_neg hb]
  have hm26 : m ≤ 26 := by rw [hm]; exact nameLen_le l0
  have EW := Aside0.mk (show IntKind.u8.wrap (10 + v9) = ((10 + m : Nat) : Int) by rw [hmv, Int.natCast_add]; exact u8_small _ (by omega) (by omega))
  have info5_ : (Tryd.prog.info? 5).map (fun i => (i.zero, i.size, i.bytes)) = some (some (.int .u8 0), 1, 1) := by kernel_rfl
  obtain ⟨i0_, hi0_, _, hsz_, _⟩ := info_parts info5_
  obtain ⟨A26, hcut26, hA26, hC26⟩ := print_mid_of (P := Tryd.prog) (Value.int .u8) 0 22 5 .i64 .u8 Tryd.underlying22 hi0_ hsz_ (some ad) c0 l0 (10 : Int) ((10 + m : Nat) : Int) (by decide) (by omega) (by rw [hl]; omega) HC0.out
  obtain ⟨q26, hq26⟩ : ∃ q, q = (l0.take (((10 + m : Nat) : Int)).toNat).drop (10 : Int).toNat := ⟨_, rfl⟩
  rw [← hq26] at hcut26 hA26 hC26
  obtain ⟨k26, hk26⟩ : ∃ k, k = c0 - (10 : Int).toNat := ⟨_, rfl⟩
  rw [← hk26] at hcut26 hC26
  clear hk26
  have HSQ := Aside0.mk (show strOfNums q26 = s by rw [hs, nameS, hq26, ← hm, Int.toNat_natCast, show (10 : Int).toNat = 10 from rfl, take_drop, show 10 + m - 10 = m by omega])
  have HR26 := Aside0.mk (Kd.C_of_reads (h1 := fun _ => rfl) (hA26 _ (Kd.reads_of_C HR0.out)))
  have HC26 := Aside0.mk hC26
  clear hq26 hA26 hC26
  obtain ⟨A29, hcut29, hA29, hC29⟩ := print_mid_of (P := Tryd.prog) (Value.int .u8) 0 22 5 .i64 .i64 Tryd.underlying22 hi0_ hsz_ (some ad) c0 l0 (40 : Int) (48 : Int) (by decide) (by decide) (by rw [HL.out]; decide) HC0.out
  obtain ⟨q29, hq29⟩ : ∃ q, q = (l0.take (48 : Int).toNat).drop (40 : Int).toNat := ⟨_, rfl⟩
  rw [← hq29] at hcut29 hA29 hC29
  obtain ⟨k29, hk29⟩ : ∃ k, k = c0 - (40 : Int).toNat := ⟨_, rfl⟩
  rw [← hk29] at hcut29 hC29
  clear hk29
  have hs29 : q29 = seg l0 40 8 := by rw [hq29]; exact take_drop l0 40 48
  have HR29 := Aside0.mk (Kd.C_of_reads (h1 := fun _ => rfl) (hA29 _ (Kd.reads_of_C HR0.out)))
  have HC29 := Aside0.mk hC29
  have EG29 := Aside0.mk (show spec_l02Get.f 20 q29 = some p by rw [hp, hs29]; exact get_f (seg l0 40 8) (seg_byt HBY.out _ _) (by rw [seg_le _ _ (by rw [HL.out]; decide)]; decide) 20 (by decide))
  clear hs29 hq29 hA29 hC29
  obtain ⟨A32, hcut32, hA32, hC32⟩ := print_mid_of (P := Tryd.prog) (Value.int .u8) 0 22 5 .i64 .i64 Tryd.underlying22 hi0_ hsz_ (some ad) c0 l0 (48 : Int) (56 : Int) (by decide) (by decide) (by rw [HL.out]; decide) HC0.out
  obtain ⟨q32, hq32⟩ : ∃ q, q = (l0.take (56 : Int).toNat).drop (48 : Int).toNat := ⟨_, rfl⟩
  rw [← hq32] at hcut32 hA32 hC32
  obtain ⟨k32, hk32⟩ : ∃ k, k = c0 - (48 : Int).toNat := ⟨_, rfl⟩
  rw [← hk32] at hcut32 hC32
  clear hk32
  have hs32 : q32 = seg l0 48 8 := by rw [hq32]; exact take_drop l0 48 56
  have HR32 := Aside0.mk (Kd.C_of_reads (h1 := fun _ => rfl) (hA32 _ (Kd.reads_of_C HR0.out)))
  have HC32 := Aside0.mk hC32
  have EG32 := Aside0.mk (show spec_l02Get.f 20 q32 = some q by rw [hq, hs32]; exact get_f (seg l0 48 8) (seg_byt HBY.out _ _) (by rw [seg_le _ _ (by rw [HL.out]; decide)]; decide) 20 (by decide))
  clear hs32 hq32 hA32 hC32
  obtain ⟨A35, hcut35, hA35, hC35⟩ := print_mid_of (P := Tryd.prog) (Value.int .u8) 0 22 5 .i64 .i64 Tryd.underlying22 hi0_ hsz_ (some ad) c0 l0 (56 : Int) (120 : Int) (by decide) (by decide) (by rw [HL.out]; decide) HC0.out
  obtain ⟨q35, hq35⟩ : ∃ q, q = (l0.take (120 : Int).toNat).drop (56 : Int).toNat := ⟨_, rfl⟩
  rw [← hq35] at hcut35 hA35 hC35
  obtain ⟨k35, hk35⟩ : ∃ k, k = c0 - (56 : Int).toNat := ⟨_, rfl⟩
  rw [← hk35] at hcut35 hC35
  clear hk35
  have hs35 : q35 = seg l0 56 64 := by rw [hq35]; exact take_drop l0 56 120
  have HR35 := Aside0.mk (Kd.C_of_reads (h1 := fun _ => rfl) (hA35 _ (Kd.reads_of_C HR0.out)))
  have HC35 := Aside0.mk hC35
  have EG35 := Aside0.mk (show spec_l02RootOf.f q35 = some r by rw [hr, hs35]; exact if_pos ⟨seg_le _ _ (by rw [HL.out]; decide), seg_byt HBY.out _ _⟩)
  clear hs35 hq35 hA35 hC35
  have BU : ∀ z : List Int, z.length = 15 → ∀ w, (Instr.build 131 #[(0, .int .i64 x), (1, .string s), (2, .int .i64 p), (3, .int .i64 q), (4, .agg (nums .i64 z).toArray)]).run Tryd.prog w = .ok (.agg (snapC x s p q z).toArray) w := by
    intro z h w_
    obtain ⟨x0, b0, rfl, h0⟩ := cons_of_len h
    obtain ⟨x1, b1, rfl, h1⟩ := cons_of_len h0
    obtain ⟨x2, b2, rfl, h2⟩ := cons_of_len h1
    obtain ⟨x3, b3, rfl, h3⟩ := cons_of_len h2
    obtain ⟨x4, b4, rfl, h4⟩ := cons_of_len h3
    obtain ⟨x5, b5, rfl, h5⟩ := cons_of_len h4
    obtain ⟨x6, b6, rfl, h6⟩ := cons_of_len h5
    obtain ⟨x7, b7, rfl, h7⟩ := cons_of_len h6
    obtain ⟨x8, b8, rfl, h8⟩ := cons_of_len h7
    obtain ⟨x9, b9, rfl, h9⟩ := cons_of_len h8
    obtain ⟨x10, b10, rfl, h10⟩ := cons_of_len h9
    obtain ⟨x11, b11, rfl, h11⟩ := cons_of_len h10
    obtain ⟨x12, b12, rfl, h12⟩ := cons_of_len h11
    obtain ⟨x13, b13, rfl, h13⟩ := cons_of_len h12
    obtain ⟨x14, b14, rfl, h14⟩ := cons_of_len h13
    obtain rfl := List.length_eq_zero_iff.mp h14
    exact run_build w_ 131 _ _ (by kernel_rfl)
  replace BU := BU r NR.out
  have BU_ := Aside0.mk BU
  clear BU
  have q8 : ((8 : Int) < (l0.length : Int)) = True := eq_true (by omega)
  have q8n : (8 < l0.length) = True := eq_true (by omega)
  clear hx hs hp hq hr hm hmv hm26 h9 hb hl
  go_enter Tryd.func79, Tryd.ntmps79
  go_wp2_with (first | ((with_reducible refine gate_dst (N := 2) rfl ?_); refine hx_alloc rfl 2 rfl 131 rfl Sz0 (.agg (snapC 0 ByteArray.empty 0 0 (List.replicate 15 0)).toArray) (snapC 0 ByteArray.empty 0 0 (List.replicate 15 0)).toArray Z131 (by simp [Value.cells]) ?_; intro w1 s1 Ls1 Ss1 b_ g_; have H2 := Aside0.mk g_; have HB1 := Aside0.mk (below_then HB0.out HB0.out.size b_); clear b_ g_ HB0; obtain ⟨ad9_, e9_, hx9_⟩ := Kd.at_int (Kd.C_below HR0.out HB1.out) 9 (by decide) (by rw [HL.out]; decide); cases e9_; rw [H9.out] at hx9_; have hx9b_ : w1.cell? { block := ad.block, off := ad.off + 9 } = some (.int .u8 v9) := (by simpa [Addr.add] using hx9_); clear hx9_))
  refine wp_region_grow_last 22 [Is (.slice (some ad) l0.length c0), Is (.pointer (some (ad.add (8 : Int).toNat))), Is (.int .u8 x), Is (.int .i64 x), Is (.slice (some ad) l0.length c0), Is (.slice (some ad) l0.length c0), Is (.pointer (some (ad.add (9 : Int).toNat))), Is (.int .u8 v9), Is (.int .u8 ((10 + m : Nat) : Int)), Is (.slice A26 q26.length k26), Is (.string s), Is (.slice (some ad) l0.length c0), Is (.slice A29 q29.length k29), Is (.int .i64 p), Is (.slice (some ad) l0.length c0), Is (.slice A32 q32.length k32), Is (.int .i64 q), Is (.slice (some ad) l0.length c0), Is (.slice A35 q35.length k35), Is (.agg (nums .i64 r).toArray), Is (.agg (snapC x s p q r).toArray), New 131 (snapC 0 ByteArray.empty 0 0 (List.replicate 15 0)).toArray w1.heap.size] (by kernel_rfl) (by kernel_rfl) (by kernel_rfl) (by kernel_rfl) (allst_cons st_is (allst_cons st_is (allst_cons st_is (allst_cons st_is (allst_cons st_is (allst_cons st_is (allst_cons st_is (allst_cons st_is (allst_cons st_is (allst_cons st_is (allst_cons st_is (allst_cons st_is (allst_cons st_is (allst_cons st_is (allst_cons st_is (allst_cons st_is (allst_cons st_is (allst_cons st_is (allst_cons st_is (allst_cons st_is (allst_cons st_is (allst_cons st_new allst_nil)))))))))))))))))))))) ?_ (fun w2 hgn => ?_)
  · refine steps_cons ?_ ?_
    · refine stepO_val rfl [] [0] (by kernel_rfl) (.slice (some ad) l0.length c0) (fun a w_ hg hf => ?_) (fun w_ _ => rfl)
      obtain ⟨_, ⟨o0, _⟩⟩ := hf
      have e0 : a.tmps[0]? = some (.slice (some ad) l0.length c0) := o0.trans rfl
      unfold execOp
      simp only [PrintLast.eval_of e0]
      rfl
    refine steps_cons ?_ ?_
    · refine stepO_val rfl [(0, 17)] [] (by kernel_rfl) (.pointer (some (ad.add (8 : Int).toNat))) (fun a w_ hg hf => ?_) (fun w_ _ => rfl)
      obtain ⟨⟨⟨_, e17, rfl⟩, _⟩, _⟩ := hf
      replace e17 : a.tmps[17]? = some (.slice (some ad) l0.length c0) := e17
      unfold execOp
      simp only [PrintLast.eval_of e17, Act.eval]
      go_simp
      (try rfl)
    refine steps_cons ?_ ?_
    · refine stepO_val rfl [(1, 18)] [] (by kernel_rfl) (.int .u8 x) (fun a w_ hg hf => ?_) (fun w_ _ => rfl)
      obtain ⟨⟨⟨_, e18, rfl⟩, _⟩, _⟩ := hf
      replace e18 : a.tmps[18]? = some (.pointer (some (ad.add (8 : Int).toNat))) := e18
      obtain ⟨ad_, e_, c_⟩ := Kd.at_int (Kd.C_below HR0.out (below_then HB1.out HB1.out.size hg)) 8 (by decide) (by rw [HL.out]; decide)
      cases e_
      rw [H8.out] at c_
      have c2_ : w_.cell? { block := ad.block, off := ad.off + 8 } = some (.int .u8 x) := (by simpa [Addr.add] using c_)
      unfold execOp
      simp only [PrintLast.eval_of e18, Act.eval]
      go_simp
      (try rfl)
    refine steps_cons ?_ ?_
    · refine stepO_val rfl [(2, 19)] [] (by kernel_rfl) (.int .i64 x) (fun a w_ hg hf => ?_) (fun w_ _ => rfl)
      obtain ⟨⟨⟨_, e19, rfl⟩, _⟩, _⟩ := hf
      replace e19 : a.tmps[19]? = some (.int .u8 x) := e19
      unfold execOp
      simp only [PrintLast.eval_of e19, Act.eval]
      have r8_ := R8.out
      go_simp
      (try rw [PrintLast.i64_w])
      (try (rw [show wrap64 x = x by unfold wrap64; omega]))
      (try rfl)
    refine steps_cons ?_ ?_
    · refine stepO_val rfl [] [0] (by kernel_rfl) (.slice (some ad) l0.length c0) (fun a w_ hg hf => ?_) (fun w_ _ => rfl)
      obtain ⟨_, ⟨o0, _⟩⟩ := hf
      have e0 : a.tmps[0]? = some (.slice (some ad) l0.length c0) := o0.trans rfl
      unfold execOp
      simp only [PrintLast.eval_of e0]
      rfl
    refine steps_cons ?_ ?_
    · refine stepO_val rfl [] [0] (by kernel_rfl) (.slice (some ad) l0.length c0) (fun a w_ hg hf => ?_) (fun w_ _ => rfl)
      obtain ⟨_, ⟨o0, _⟩⟩ := hf
      have e0 : a.tmps[0]? = some (.slice (some ad) l0.length c0) := o0.trans rfl
      unfold execOp
      simp only [PrintLast.eval_of e0]
      rfl
    refine steps_cons ?_ ?_
    · refine stepO_val rfl [(5, 22)] [] (by kernel_rfl) (.pointer (some (ad.add (9 : Int).toNat))) (fun a w_ hg hf => ?_) (fun w_ _ => rfl)
      obtain ⟨⟨⟨_, e22, rfl⟩, _⟩, _⟩ := hf
      replace e22 : a.tmps[22]? = some (.slice (some ad) l0.length c0) := e22
      unfold execOp
      simp only [PrintLast.eval_of e22, Act.eval]
      go_simp
      (try rfl)
    refine steps_cons ?_ ?_
    · refine stepO_val rfl [(6, 23)] [] (by kernel_rfl) (.int .u8 v9) (fun a w_ hg hf => ?_) (fun w_ _ => rfl)
      obtain ⟨⟨⟨_, e23, rfl⟩, _⟩, _⟩ := hf
      replace e23 : a.tmps[23]? = some (.pointer (some (ad.add (9 : Int).toNat))) := e23
      obtain ⟨ad_, e_, c_⟩ := Kd.at_int (Kd.C_below HR0.out (below_then HB1.out HB1.out.size hg)) 9 (by decide) (by rw [HL.out]; decide)
      cases e_
      rw [H9.out] at c_
      have c2_ : w_.cell? { block := ad.block, off := ad.off + 9 } = some (.int .u8 v9) := (by simpa [Addr.add] using c_)
      unfold execOp
      simp only [PrintLast.eval_of e23, Act.eval]
      go_simp
      (try rfl)
    refine steps_cons ?_ ?_
    · refine stepO_val rfl [(7, 24)] [] (by kernel_rfl) (.int .u8 ((10 + m : Nat) : Int)) (fun a w_ hg hf => ?_) (fun w_ _ => rfl)
      obtain ⟨⟨⟨_, e24, rfl⟩, _⟩, _⟩ := hf
      replace e24 : a.tmps[24]? = some (.int .u8 v9) := e24
      unfold execOp
      simp only [PrintLast.eval_of e24, Act.eval]
      go_simp
      (try (have e_ := EW.out; rw [Int.natCast_add] at e_; exact e_))
      (try rfl)
    refine steps_cons ?_ ?_
    · refine stepO_val rfl [(4, 21), (8, 25)] [] (by kernel_rfl) (.slice A26 q26.length k26) (fun a w_ hg hf => ?_) (fun w_ _ => rfl)
      obtain ⟨⟨⟨_, e21, rfl⟩, ⟨_, e25, rfl⟩, _⟩, _⟩ := hf
      replace e21 : a.tmps[21]? = some (.slice (some ad) l0.length c0) := e21
      replace e25 : a.tmps[25]? = some (.int .u8 ((10 + m : Nat) : Int)) := e25
      have hel_ : Tryd.prog.elem 22 = 5 := by simp [Program.elem, Tryd.underlying22]
      have hsl_ := run_sliceAt_slice (P := Tryd.prog) (w := w_) 22 (.slice (some ad) l0.length c0) (some (.int .i64 10)) (some (.int .u8 ((10 + m : Nat) : Int))) none (by rw [hel_]; exact Tryd.underlying22)
      have hc_ : a.eval (.const (.int .i64 10)) = .int .i64 10 := rfl
      unfold execOp
      simp only [PrintLast.eval_of e21, PrintLast.eval_of e25, hc_, Option.map_some, Option.map_none, Sem.run_bind, hsl_, hcut26, Result.andThen_ok, Sem.run_pure]
    refine steps_cons ?_ ?_
    · refine stepO_val rfl [(9, 26)] [] (by kernel_rfl) (.string s) (fun a w_ hg hf => ?_) (fun w_ _ => rfl)
      obtain ⟨⟨⟨_, e26, rfl⟩, _⟩, _⟩ := hf
      replace e26 : a.tmps[26]? = some (.slice A26 q26.length k26) := e26
      have h_ := Kd.C_string (P := Tryd.prog) (A := A26) (c := k26) Tryd.underlying22 Tryd.underlying5 Tryd.underlying9 (Kd.C_below HR26.out (below_then HB1.out HB1.out.size hg))
      unfold execOp
      simp only [PrintLast.eval_of e26, Sem.run_bind, h_, Result.andThen_ok, Sem.run_pure]
      rw [HSQ.out]
    refine steps_cons ?_ ?_
    · refine stepO_val rfl [] [0] (by kernel_rfl) (.slice (some ad) l0.length c0) (fun a w_ hg hf => ?_) (fun w_ _ => rfl)
      obtain ⟨_, ⟨o0, _⟩⟩ := hf
      have e0 : a.tmps[0]? = some (.slice (some ad) l0.length c0) := o0.trans rfl
      unfold execOp
      simp only [PrintLast.eval_of e0]
      rfl
    refine steps_cons ?_ ?_
    · refine stepO_val rfl [(11, 28)] [] (by kernel_rfl) (.slice A29 q29.length k29) (fun a w_ hg hf => ?_) (fun w_ _ => rfl)
      obtain ⟨⟨⟨_, e28, rfl⟩, _⟩, _⟩ := hf
      replace e28 : a.tmps[28]? = some (.slice (some ad) l0.length c0) := e28
      unfold execOp
      simp only [PrintLast.eval_of e28, Act.eval]
      go_simp
      (try rfl)
    refine steps_cons ?_ ?_
    · refine stepO_call rfl [(12, 29)] [] (by kernel_rfl) Tryd.func108 (by kernel_rfl) rfl rfl (fun a w_ hg hf => ?_)
      obtain ⟨⟨⟨_, e29, rfl⟩, _⟩, _⟩ := hf
      replace e29 : a.tmps[29]? = some (.slice A29 q29.length k29) := e29
      refine ⟨#[.slice A29 q29.length k29], (by simp only [List.map_toArray, List.map_cons, List.map_nil, PrintLast.eval_of e29]; first | done | rfl), (spec_l02Get.calls 20 A29 k29 q29 p w_ (Kd.C_below HR29.out (below_then HB1.out HB1.out.size hg)) HC29.out EG29.out).mono ?_⟩
      rintro e_ w2_ ⟨rfl, d_⟩
      have b_ := kept_drawn d_
      exact ⟨_, rfl, b_, rfl⟩
    refine steps_cons ?_ ?_
    · refine stepO_val rfl [] [0] (by kernel_rfl) (.slice (some ad) l0.length c0) (fun a w_ hg hf => ?_) (fun w_ _ => rfl)
      obtain ⟨_, ⟨o0, _⟩⟩ := hf
      have e0 : a.tmps[0]? = some (.slice (some ad) l0.length c0) := o0.trans rfl
      unfold execOp
      simp only [PrintLast.eval_of e0]
      rfl
    refine steps_cons ?_ ?_
    · refine stepO_val rfl [(14, 31)] [] (by kernel_rfl) (.slice A32 q32.length k32) (fun a w_ hg hf => ?_) (fun w_ _ => rfl)
      obtain ⟨⟨⟨_, e31, rfl⟩, _⟩, _⟩ := hf
      replace e31 : a.tmps[31]? = some (.slice (some ad) l0.length c0) := e31
      unfold execOp
      simp only [PrintLast.eval_of e31, Act.eval]
      go_simp
      (try rfl)
    refine steps_cons ?_ ?_
    · refine stepO_call rfl [(15, 32)] [] (by kernel_rfl) Tryd.func108 (by kernel_rfl) rfl rfl (fun a w_ hg hf => ?_)
      obtain ⟨⟨⟨_, e32, rfl⟩, _⟩, _⟩ := hf
      replace e32 : a.tmps[32]? = some (.slice A32 q32.length k32) := e32
      refine ⟨#[.slice A32 q32.length k32], (by simp only [List.map_toArray, List.map_cons, List.map_nil, PrintLast.eval_of e32]; first | done | rfl), (spec_l02Get.calls 20 A32 k32 q32 q w_ (Kd.C_below HR32.out (below_then HB1.out HB1.out.size hg)) HC32.out EG32.out).mono ?_⟩
      rintro e_ w2_ ⟨rfl, d_⟩
      have b_ := kept_drawn d_
      exact ⟨_, rfl, b_, rfl⟩
    refine steps_cons ?_ ?_
    · refine stepO_val rfl [] [0] (by kernel_rfl) (.slice (some ad) l0.length c0) (fun a w_ hg hf => ?_) (fun w_ _ => rfl)
      obtain ⟨_, ⟨o0, _⟩⟩ := hf
      have e0 : a.tmps[0]? = some (.slice (some ad) l0.length c0) := o0.trans rfl
      unfold execOp
      simp only [PrintLast.eval_of e0]
      rfl
    refine steps_cons ?_ ?_
    · refine stepO_val rfl [(17, 34)] [] (by kernel_rfl) (.slice A35 q35.length k35) (fun a w_ hg hf => ?_) (fun w_ _ => rfl)
      obtain ⟨⟨⟨_, e34, rfl⟩, _⟩, _⟩ := hf
      replace e34 : a.tmps[34]? = some (.slice (some ad) l0.length c0) := e34
      unfold execOp
      simp only [PrintLast.eval_of e34, Act.eval]
      go_simp
      (try rfl)
    refine steps_cons ?_ ?_
    · refine stepO_call rfl [(18, 35)] [] (by kernel_rfl) Tryd.func109 (by kernel_rfl) rfl rfl (fun a w_ hg hf => ?_)
      obtain ⟨⟨⟨_, e35, rfl⟩, _⟩, _⟩ := hf
      replace e35 : a.tmps[35]? = some (.slice A35 q35.length k35) := e35
      refine ⟨#[.slice A35 q35.length k35], (by simp only [List.map_toArray, List.map_cons, List.map_nil, PrintLast.eval_of e35]; first | done | rfl), (spec_l02RootOf.calls A35 k35 q35 r w_ (Kd.C_below HR35.out (below_then HB1.out HB1.out.size hg)) HC35.out EG35.out).mono ?_⟩
      rintro e_ w2_ ⟨rfl, b_⟩
      exact ⟨_, rfl, b_, rfl⟩
    refine steps_cons ?_ ?_
    · refine stepO_val rfl [(3, 20), (10, 27), (13, 30), (16, 33), (19, 36)] [] (by kernel_rfl) (.agg (snapC x s p q r).toArray) (fun a w_ hg hf => ?_) (fun w_ _ => rfl)
      obtain ⟨⟨⟨_, e20, rfl⟩, ⟨_, e27, rfl⟩, ⟨_, e30, rfl⟩, ⟨_, e33, rfl⟩, ⟨_, e36, rfl⟩, _⟩, _⟩ := hf
      replace e20 : a.tmps[20]? = some (.int .i64 x) := e20
      replace e27 : a.tmps[27]? = some (.string s) := e27
      replace e30 : a.tmps[30]? = some (.int .i64 p) := e30
      replace e33 : a.tmps[33]? = some (.int .i64 q) := e33
      replace e36 : a.tmps[36]? = some (.agg (nums .i64 r).toArray) := e36
      unfold execOp
      simp only [PrintLast.eval_of e20, PrintLast.eval_of e27, PrintLast.eval_of e30, PrintLast.eval_of e33, PrintLast.eval_of e36, List.map_toArray, List.map_cons, List.map_nil, Sem.run_bind, Sem.run_pure, Result.andThen_ok, BU_.out]
    refine steps_cons ?_ ?_
    · refine stepO_alloc rfl [] [] (by kernel_rfl) rfl (.agg (snapC 0 ByteArray.empty 0 0 (List.replicate 15 0)).toArray) (snapC 0 ByteArray.empty 0 0 (List.replicate 15 0)).toArray Z131 (by simp [Value.cells]) (fun _ _ h => h)
    exact steps_nil
  · skip
    refine ends_cons (fun v0_ p0_ => ?_)
    obtain rfl : v0_ = _ := p0_
    refine ends_cons (fun v1_ p1_ => ?_)
    obtain rfl : v1_ = _ := p1_
    refine ends_cons (fun v2_ p2_ => ?_)
    obtain rfl : v2_ = _ := p2_
    refine ends_cons (fun v3_ p3_ => ?_)
    obtain rfl : v3_ = _ := p3_
    refine ends_cons (fun v4_ p4_ => ?_)
    obtain rfl : v4_ = _ := p4_
    refine ends_cons (fun v5_ p5_ => ?_)
    obtain rfl : v5_ = _ := p5_
    refine ends_cons (fun v6_ p6_ => ?_)
    obtain rfl : v6_ = _ := p6_
    refine ends_cons (fun v7_ p7_ => ?_)
    obtain rfl : v7_ = _ := p7_
    refine ends_cons (fun v8_ p8_ => ?_)
    obtain rfl : v8_ = _ := p8_
    refine ends_cons (fun v9_ p9_ => ?_)
    obtain rfl : v9_ = _ := p9_
    refine ends_cons (fun v10_ p10_ => ?_)
    obtain rfl : v10_ = _ := p10_
    refine ends_cons (fun v11_ p11_ => ?_)
    obtain rfl : v11_ = _ := p11_
    refine ends_cons (fun v12_ p12_ => ?_)
    obtain rfl : v12_ = _ := p12_
    refine ends_cons (fun v13_ p13_ => ?_)
    obtain rfl : v13_ = _ := p13_
    refine ends_cons (fun v14_ p14_ => ?_)
    obtain rfl : v14_ = _ := p14_
    refine ends_cons (fun v15_ p15_ => ?_)
    obtain rfl : v15_ = _ := p15_
    refine ends_cons (fun v16_ p16_ => ?_)
    obtain rfl : v16_ = _ := p16_
    refine ends_cons (fun v17_ p17_ => ?_)
    obtain rfl : v17_ = _ := p17_
    refine ends_cons (fun v18_ p18_ => ?_)
    obtain rfl : v18_ = _ := p18_
    refine ends_cons (fun v19_ p19_ => ?_)
    obtain rfl : v19_ = _ := p19_
    refine ends_cons (fun v20_ p20_ => ?_)
    obtain rfl : v20_ = _ := p20_
    refine ends_cons (fun v21_ p21_ => ?_)
    obtain ⟨g21_, l21_, rfl, n21_⟩ := p21_
    refine ends_nil ?_
    simp only [Act.put, List.setIfInBounds_toArray, List.set_cons_succ, List.set_cons_zero]
    have HB2 := Aside0.mk (below_then HB1.out HB1.out.size hgn)
    have H2_2 := Aside0.mk (blk_below H2.out hgn)
    rw [Ss1.out] at l21_
    have N21 := Aside0.mk n21_
    clear n21_ hgn HB1 H2 hx9b_
    simp only [List.drop_succ_cons, List.drop_zero]
    by_cases hg : snapGood x c p q r = true
    case neg =>
      have hd : decS x s p q r c l0 = (0, ByteArray.empty, 0, 0, (List.replicate 15 0), 21) := by unfold decS; rw [if_neg (fun h_ => hg h_.2.1)]
      rw [hd] at h
      simp only [Prod.mk.injEq] at h
      obtain ⟨rfl, rfl, rfl, rfl, rfl, rfl⟩ := h
      clear hd
      have ER := Aside0.mk (show (if snapGood x c p q r = true then (snapBytes x s p q r, (0 : Int)) else ([], 7)) = ([], 7) from if_neg hg)
      clear hg
      go_wp2_with (first | ((with_reducible refine gate_store (t := 131) (p := 4) (v := .tmp 37) rfl ?_); refine hx_store rfl rfl 131 (.tmp 4) (.tmp 37) rfl g21_ 19 rfl (snapC x s p q r).toArray rfl (by kernel_rfl) (snapC_size NR.out) (snapC_one _ _ _ _ _) N21.out snapZ_size ?_; intro w4 t_ gg_; have HG4 := Aside0.mk gg_; have H2_3 := Aside0.mk (t_.keep (show s0 ≠ g21_ by omega) H2_2.out); have HB4 := Aside0.mk (t_.below HB2.out (by omega)); clear t_ gg_ N21 HB2 H2_2) | ((with_reducible refine gate_dst (N := 39) rfl ?_); refine hx_load rfl 131 (.tmp 4) rfl g21_ 19 rfl Tryd.underlying131 rfl (by kernel_rfl) HG4.out (snapC_size NR.out) ?_) | ((with_reducible refine gate_dst (N := 40) rfl ?_); refine goesL_ (some 40) rfl rfl Tryd.func110 (by kernel_rfl) rfl #[.agg (snapC x s p q r).toArray] rfl (by (try simp only [List.map_toArray, List.map_cons, List.map_nil]); first | done | rfl) ?_; refine (spec_EncodeSnap.calls x s p q r NR.out k c HCKs.out HCZs.out [] 7 _ ER.out).mono ?_; rintro e_ w7 ⟨v0_, rfl, R_, b_⟩; refine ⟨_, rfl, ?_⟩; have HG7 := Aside0.mk (blk_below HG4.out b_); have HZ7 := Aside0.mk (blk_below H2_3.out b_); have HB7 := Aside0.mk (below_then HB4.out HB4.out.size b_); clear R_; clear b_ HG4 H2_3 HB4) | ((with_reducible refine gate_store (t := 131) (p := 2) (v := .tmp 52) rfl ?_); refine hx_store rfl rfl 131 (.tmp 2) (.tmp 52) rfl s0 19 rfl (snapC 0 ByteArray.empty 0 0 (List.replicate 15 0)).toArray rfl (by kernel_rfl) snapZ_size (snapC_one _ _ _ _ _) HZ7.out snapZ_size ?_; intro we t_ gg_; have HE := Aside0.mk gg_; have HEB := Aside0.mk (t_.below HB7.out (by omega)); clear t_ gg_ HZ7 HB7 ))
      exact bodyPost_ret (results_ct rfl _ _ s0 131 (snapC 0 ByteArray.empty 0 0 (List.replicate 15 0)).toArray (0, 0) _ rfl HE.out Tryd.underlying131 rfl (by kernel_rfl)) rfl ⟨rfl, HEB.out⟩
    have hs0 : ((strOfNums (snapBytes x s p q r)).toList == (strOfNums l0).toList) = decide (snapBytes x s p q r = l0) := strOf_eq (snapBytes_byt x s p q r) HBY.out
    by_cases he : snapBytes x s p q r = l0
    case neg =>
      have hd : decS x s p q r c l0 = (0, ByteArray.empty, 0, 0, (List.replicate 15 0), 21) := by unfold decS; rw [if_neg (fun h_ => he h_.2.2)]
      rw [hd] at h
      simp only [Prod.mk.injEq] at h
      obtain ⟨rfl, rfl, rfl, rfl, rfl, rfl⟩ := h
      clear hd
      rw [decide_eq_false he] at hs0
      obtain ⟨rb, hrb⟩ : ∃ b, b = snapBytes x s p q r := ⟨_, rfl⟩
      have ER := Aside0.mk (show (if snapGood x c p q r = true then (snapBytes x s p q r, (0 : Int)) else ([], 7)) = (rb, 0) by rw [if_pos hg, hrb])
      rw [← hrb] at hs0
      clear hrb hg he
      go_wp2_with (first | ((with_reducible refine gate_store (t := 131) (p := 4) (v := .tmp 37) rfl ?_); refine hx_store rfl rfl 131 (.tmp 4) (.tmp 37) rfl g21_ 19 rfl (snapC x s p q r).toArray rfl (by kernel_rfl) (snapC_size NR.out) (snapC_one _ _ _ _ _) N21.out snapZ_size ?_; intro w4 t_ gg_; have HG4 := Aside0.mk gg_; have H2_3 := Aside0.mk (t_.keep (show s0 ≠ g21_ by omega) H2_2.out); have HB4 := Aside0.mk (t_.below HB2.out (by omega)); clear t_ gg_ N21 HB2 H2_2) | ((with_reducible refine gate_dst (N := 39) rfl ?_); refine hx_load rfl 131 (.tmp 4) rfl g21_ 19 rfl Tryd.underlying131 rfl (by kernel_rfl) HG4.out (snapC_size NR.out) ?_) | ((with_reducible refine gate_dst (N := 40) rfl ?_); refine goesL_ (some 40) rfl rfl Tryd.func110 (by kernel_rfl) rfl #[.agg (snapC x s p q r).toArray] rfl (by (try simp only [List.map_toArray, List.map_cons, List.map_nil]); first | done | rfl) ?_; refine (spec_EncodeSnap.calls x s p q r NR.out k c HCKs.out HCZs.out rb 0 _ ER.out).mono ?_; rintro e_ w7 ⟨v0_, rfl, R_, b_⟩; obtain ⟨Ab, cb, rfl⟩ := Kd.R_slice R_; refine ⟨_, rfl, ?_⟩; have HG7 := Aside0.mk (blk_below HG4.out b_); have HZ7 := Aside0.mk (blk_below H2_3.out b_); have HB7 := Aside0.mk (below_then HB4.out HB4.out.size b_); have hcv1 := Kd.C_string (P := Tryd.prog) (A := Ab) (c := cb) Tryd.underlying22 Tryd.underlying5 Tryd.underlying9 (Kd.R_reads' R_).2.2; have hcv2 := Kd.C_string (P := Tryd.prog) (A := (some ad)) (c := c0) Tryd.underlying22 Tryd.underlying5 Tryd.underlying9 (Kd.C_below HR0.out HB7.out); clear R_; clear b_ HG4 H2_3 HB4) | ((with_reducible refine gate_store (t := 131) (p := 2) (v := .tmp 52) rfl ?_); refine hx_store rfl rfl 131 (.tmp 2) (.tmp 52) rfl s0 19 rfl (snapC 0 ByteArray.empty 0 0 (List.replicate 15 0)).toArray rfl (by kernel_rfl) snapZ_size (snapC_one _ _ _ _ _) HZ7.out snapZ_size ?_; intro we t_ gg_; have HE := Aside0.mk gg_; have HEB := Aside0.mk (t_.below HB7.out (by omega)); clear t_ gg_ HZ7 HB7 ))
      exact bodyPost_ret (results_ct rfl _ _ s0 131 (snapC 0 ByteArray.empty 0 0 (List.replicate 15 0)).toArray (0, 0) _ rfl HE.out Tryd.underlying131 rfl (by kernel_rfl)) rfl ⟨rfl, HEB.out⟩
    have hd : decS x s p q r c l0 = (x, s, p, q, r, 0) := by unfold decS; rw [if_pos ⟨HL.out, hg, he⟩]
    rw [hd] at h
    simp only [Prod.mk.injEq] at h
    obtain ⟨rfl, rfl, rfl, rfl, rfl, rfl⟩ := h
    rw [decide_eq_true he] at hs0
    clear hd
    obtain ⟨rb, hrb⟩ : ∃ b, b = snapBytes x s p q r := ⟨_, rfl⟩
    have ER := Aside0.mk (show (if snapGood x c p q r = true then (snapBytes x s p q r, (0 : Int)) else ([], 7)) = (rb, 0) by rw [if_pos hg, hrb])
    rw [← hrb] at hs0
    clear hrb hg he
    go_wp2_with (first | ((with_reducible refine gate_store (t := 131) (p := 4) (v := .tmp 37) rfl ?_); refine hx_store rfl rfl 131 (.tmp 4) (.tmp 37) rfl g21_ 19 rfl (snapC x s p q r).toArray rfl (by kernel_rfl) (snapC_size NR.out) (snapC_one _ _ _ _ _) N21.out snapZ_size ?_; intro w4 t_ gg_; have HG4 := Aside0.mk gg_; have H2_3 := Aside0.mk (t_.keep (show s0 ≠ g21_ by omega) H2_2.out); have HB4 := Aside0.mk (t_.below HB2.out (by omega)); clear t_ gg_ N21 HB2 H2_2) | ((with_reducible refine gate_dst (N := 39) rfl ?_); refine hx_load rfl 131 (.tmp 4) rfl g21_ 19 rfl Tryd.underlying131 rfl (by kernel_rfl) HG4.out (snapC_size NR.out) ?_) | ((with_reducible refine gate_dst (N := 40) rfl ?_); refine goesL_ (some 40) rfl rfl Tryd.func110 (by kernel_rfl) rfl #[.agg (snapC x s p q r).toArray] rfl (by (try simp only [List.map_toArray, List.map_cons, List.map_nil]); first | done | rfl) ?_; refine (spec_EncodeSnap.calls x s p q r NR.out k c HCKs.out HCZs.out rb 0 _ ER.out).mono ?_; rintro e_ w7 ⟨v0_, rfl, R_, b_⟩; obtain ⟨Ab, cb, rfl⟩ := Kd.R_slice R_; refine ⟨_, rfl, ?_⟩; have HG7 := Aside0.mk (blk_below HG4.out b_); have HZ7 := Aside0.mk (blk_below H2_3.out b_); have HB7 := Aside0.mk (below_then HB4.out HB4.out.size b_); have hcv1 := Kd.C_string (P := Tryd.prog) (A := Ab) (c := cb) Tryd.underlying22 Tryd.underlying5 Tryd.underlying9 (Kd.R_reads' R_).2.2; have hcv2 := Kd.C_string (P := Tryd.prog) (A := (some ad)) (c := c0) Tryd.underlying22 Tryd.underlying5 Tryd.underlying9 (Kd.C_below HR0.out HB7.out); clear R_; clear b_ HG4 H2_3 HB4) | ((with_reducible refine gate_dst (N := 53) rfl ?_); refine hx_load rfl 131 (.tmp 4) rfl g21_ 19 rfl Tryd.underlying131 rfl (by kernel_rfl) HG7.out (snapC_size NR.out) ?_) | ((with_reducible refine gate_store (t := 131) (p := 2) (v := .tmp 53) rfl ?_); refine hx_store rfl rfl 131 (.tmp 2) (.tmp 53) rfl s0 19 rfl (snapC x s p q r).toArray rfl (by kernel_rfl) (snapC_size NR.out) (snapC_one _ _ _ _ _) HZ7.out snapZ_size ?_; intro we t_ gg_; have HE := Aside0.mk gg_; have HEB := Aside0.mk (t_.below HB7.out (by omega)); clear t_ gg_ HZ7 HB7 ))
    exact bodyPost_ret (results_ct rfl _ _ s0 131 (snapC x s p q r).toArray (0, 0) _ rfl HE.out Tryd.underlying131 rfl (by rw [snapC_size NR.out]; kernel_rfl)) rfl ⟨rfl, HEB.out⟩
open Go.Proofs.YtknlpjoidjgciaaDoorW Go.Proofs.YtknlpjoidjgciaaDoorW.PrintHand Go.Proofs.YtknlpjoidjgciaaDoorW.PrintHx
section
open Go.Extern.Stop Go.Stop Go.Extern
theorem ea_nil (t : Value) (w : World) :
    Calls Tryd.prog 94 #[.nilIface, t] w fun e w' => e = .returned (.bool false) ∧ w' = w := by
  go_enter Tryd.func94, Tryd.ntmps94
  go_wp2
  go_ret
  exact ⟨rfl, rfl⟩
theorem ea_valueOf27 (t : Addr) (w : World) : (ReflectliteValue.unpack (.iface 155 (.pointer (some t)))).run Tryd.prog w
    = .ok (.agg #[.pointer (some ⟨9, 155, none⟩), .pointer (some ⟨w.heap.size, 0, none⟩), .int .u64 150]) (w.alloc (.cells #[.pointer (some t)] 155)) := by kernel_rfl
theorem ea_type27 (a : Addr) (w : World) : (ReflectliteValue.methodAny (ReflectliteValue.valueError "reflectlite.Value.Type" 0) (fun t _ _ _ => ReflectliteType.toType t) #[.agg #[.pointer (some ⟨9, 155, none⟩), .pointer (some a), .int .u64 150]]).run Tryd.prog w
    = .ok (.iface 237 (.agg #[.pointer (some ⟨9, 155, none⟩)])) w := by kernel_rfl
theorem ea_methodKind (h : Value) (w : World) : (Go.method 409 237 (.agg #[h]) "Kind").run Tryd.prog w = .ok (215, h) w := by kernel_rfl
theorem ea_kind27 (w : World) : ((ReflectliteType.abiMethod fun t => (fun a : Nat => Value.int IntKind.u8 (a : Int)) <$> Rtype.kind t) #[.pointer (some ⟨9, 155, none⟩)]).run Tryd.prog w = .ok (.int .u8 22) w := by kernel_rfl
theorem ea_kind25 (w : World) : ((ReflectliteType.abiMethod fun t => (fun a : Nat => Value.int IntKind.u8 (a : Int)) <$> Rtype.kind t) #[.pointer (some ⟨9, 152, none⟩)]).run Tryd.prog w = .ok (.int .u8 2) w := by kernel_rfl
theorem ea_rlm (z : Sem Value) (f : TypeId → Addr → Nat → Nat → Sem Value) (v : Value) :
    ReflectliteValue.method z f #[v] = (do match ← ReflectliteValue.parts v with | none => z | some (t, a, fl) => f t a fl (fl % 32)) := rfl
theorem ea_parts27 (a : Addr) (w : World) : (ReflectliteValue.parts (.agg #[.pointer (some ⟨9, 155, none⟩), .pointer (some a), .int .u64 150])).run Tryd.prog w = .ok (some (155, a, 150)) w := by kernel_rfl
theorem ea_isNil27 (a p : Addr) (W : World) (ha : W.cell? a = some (.pointer (some p))) :
    (ReflectliteValue.method (ReflectliteValue.valueError "reflectlite.Value.IsNil" 0) ReflectliteValue.isNil #[.agg #[.pointer (some ⟨9, 155, none⟩), .pointer (some a), .int .u64 150]]).run Tryd.prog W = .ok (.bool false) W := by
  rw [ea_rlm]
  simp only [Sem.run_bind, ea_parts27, Result.andThen]
  simp [ReflectliteValue.isNil, loadVar, isAgg, underlying, Tryd.underlying155, ha, Result.andThen]
theorem ea_methodElem (h : Value) (w : World) : (Go.method 409 237 (.agg #[h]) "Elem").run Tryd.prog w = .ok (229, .agg #[h]) w := by kernel_rfl
theorem ea_methodImplements (h : Value) (w : World) : (Go.method 409 237 (.agg #[h]) "Implements").run Tryd.prog w = .ok (230, .agg #[h]) w := by kernel_rfl
theorem ea_methodAssignableTo (h : Value) (w : World) : (Go.method 409 237 (.agg #[h]) "AssignableTo").run Tryd.prog w = .ok (227, .agg #[h]) w := by kernel_rfl
theorem ea_elem27 (w : World) : (ReflectliteType.method ReflectliteType.elem #[.agg #[.pointer (some ⟨9, 155, none⟩)]]).run Tryd.prog w = .ok (.iface 237 (.agg #[.pointer (some ⟨9, 152, none⟩)])) w := by kernel_rfl
theorem ea_implements25 (w : World) : (ReflectliteType.relation "Implements" ReflectliteType.implements_ #[.agg #[.pointer (some ⟨9, 152, none⟩)], .iface 237 (.agg #[.pointer (some ⟨9, 93, none⟩)])]).run Tryd.prog w = .ok (.bool true) w := by kernel_rfl
theorem ea_typeOf25 (v : Value) (w : World) : (ReflectliteType.typeOf #[.iface 152 v]).run Tryd.prog w = .ok (.iface 237 (.agg #[.pointer (some ⟨9, 152, none⟩)])) w := by kernel_rfl
theorem ea_assignable25 (w : World) : (ReflectliteType.relation "AssignableTo" ReflectliteType.assignableTo #[.agg #[.pointer (some ⟨9, 152, none⟩)], .iface 237 (.agg #[.pointer (some ⟨9, 152, none⟩)])]).run Tryd.prog w = .ok (.bool true) w := by kernel_rfl
theorem ea_valueOf25 (e : Int) (w : World) : (ReflectliteValue.unpack (.iface 152 (.int .i64 e))).run Tryd.prog w
    = .ok (.agg #[.pointer (some ⟨9, 152, none⟩), .pointer (some ⟨w.heap.size, 0, none⟩), .int .u64 130]) (w.alloc (.cells #[.int .i64 e] 152)) := by kernel_rfl
theorem ea_elemOf27 (w : World) : (Rtype.elem? 155).run Tryd.prog w = .ok (some 152) w := by kernel_rfl
theorem ea_mk25 (p : Addr) (w : World) : (ReflectliteValue.mk 152 p ReflectliteValue.flagAddr).run Tryd.prog w = .ok (.agg #[.pointer (some ⟨9, 152, none⟩), .pointer (some p), .int .u64 386]) w := by kernel_rfl
theorem ea_elemV27 (a p : Addr) (W : World) (ha : W.cell? a = some (.pointer (some p))) :
    (ReflectliteValue.method (ReflectliteValue.valueError "reflectlite.Value.Elem" 0) ReflectliteValue.elem #[.agg #[.pointer (some ⟨9, 155, none⟩), .pointer (some a), .int .u64 150]]).run Tryd.prog W
      = .ok (.agg #[.pointer (some ⟨9, 152, none⟩), .pointer (some p), .int .u64 386]) W := by
  rw [ea_rlm]
  simp only [Sem.run_bind, ea_parts27, Result.andThen]
  simp [ReflectliteValue.elem, loadVar, isAgg, underlying, Tryd.underlying155, ha, Result.andThen, ea_elemOf27, ea_mk25]
theorem ea_rls (v x : Value) : ReflectliteValue.set #[v, x] = (do
    let (some (dst, a, fl), some (src, b, _)) := (← ReflectliteValue.parts v, ← ReflectliteValue.parts x)
      | unsupported (.noEntry "extern/(internal/reflectlite.Value).Set.zeroValue")
    if fl / ReflectliteValue.flagAddr % 2 == 0 then unsupported (.noEntry "extern/(internal/reflectlite.Value).Set.unaddressable")
    let val ← loadVar src b
    if ← Rtype.directlyAssignable dst src then storeVar dst a val
    else if ← Rtype.implements dst src then
      if (← Rtype.kind src) == 20 then
        match val with
        | .nilIface => unsupported (.noEntry "extern/reflectlite: a nil value of one interface type handed on as a value of another")
        | _ => storeVar dst a val
      else storeVar dst a (.iface src val)
    else panicString ("reflectlite.Set: value of type " ++ (← Rtype.spelt src) ++ " is not assignable to type " ++ (← Rtype.spelt dst))
    pure (.tuple #[])) := rfl
theorem ea_parts25a (a : Addr) (w : World) : (ReflectliteValue.parts (.agg #[.pointer (some ⟨9, 152, none⟩), .pointer (some a), .int .u64 386])).run Tryd.prog w = .ok (some (152, a, 386)) w := by kernel_rfl
theorem ea_parts25 (a : Addr) (w : World) : (ReflectliteValue.parts (.agg #[.pointer (some ⟨9, 152, none⟩), .pointer (some a), .int .u64 130])).run Tryd.prog w = .ok (some (152, a, 130)) w := by kernel_rfl
theorem ea_direct25 (w : World) : (Rtype.directlyAssignable 152 152).run Tryd.prog w = .ok true w := by kernel_rfl
theorem ea_set25 (ta b : Addr) (e : Int) (old : Value) (W : World) (hb : W.cell? b = some (.int .i64 e)) (ht : W.cell? ta = some old) (hf : W.frozen? ta = false) :
    (ReflectliteValue.set #[.agg #[.pointer (some ⟨9, 152, none⟩), .pointer (some ta), .int .u64 386], .agg #[.pointer (some ⟨9, 152, none⟩), .pointer (some b), .int .u64 130]]).run Tryd.prog W
      = .ok (.tuple #[]) (W.setCell ta (.int .i64 e)) := by
  rw [ea_rls]
  simp only [Sem.run_bind, ea_parts25a, ea_parts25, Result.andThen]
  simp [ReflectliteValue.flagAddr, loadVar, isAgg, underlying, Tryd.underlying152, hb, Result.andThen, ea_direct25, storeVar, Value.cells, storeCells, Addr.add]
  rw [run_store Tryd.prog W ta _ _ (by rfl)]
  simp [ht, hf]
set_option maxHeartbeats 8000000 in
set_option maxRecDepth 100000 in
theorem ea_hit (e : Int) (t : Addr) (old : Value) (w : World) (hg : w.cell? ⟨0, 0, none⟩ = some (.iface 237 (.agg #[.pointer (some ⟨9, 93, none⟩)]))) (ht0 : w.cell? t = some old) (hf0 : w.frozen? t = false) :
    Calls Tryd.prog 94 #[.iface 152 (.int .i64 e), .iface 155 (.pointer (some t))] w fun ev w' => ev = .returned (.bool true) ∧ w' = ((((w.alloc (.cells #[.pointer (some t)] 155)).alloc (.cells #[.pointer (some ⟨9, 155, none⟩), .pointer (some ⟨w.heap.size, 0, none⟩), .int .u64 150] 198)).alloc (.cells #[.pointer (some ⟨9, 155, none⟩), .pointer (some ⟨w.heap.size, 0, none⟩), .int .u64 150] 198)).alloc (.cells #[.int .i64 e] 152)).setCell t (.int .i64 e) := by
  have h6 := @run_callFunc_extern Tryd.prog 124 _ (fun args => ReflectliteValue.unpack (args.getD 0 (.tuple #[]))) Tryd.func124 (by kernel_rfl) (by kernel_rfl) (by kernel_rfl) (by kernel_rfl)
  have h7 := @run_callFunc_extern Tryd.prog 125 _ (ReflectliteValue.methodAny (ReflectliteValue.valueError "reflectlite.Value.Type" 0) (fun t _ _ _ => ReflectliteType.toType t)) Tryd.func125 (by kernel_rfl) (by kernel_rfl) (by kernel_rfl) (by kernel_rfl)
  have h8 := @run_callFunc_extern Tryd.prog 126 _ (ReflectliteValue.method (ReflectliteValue.valueError "reflectlite.Value.IsNil" 0) ReflectliteValue.isNil) Tryd.func126 (by kernel_rfl) (by kernel_rfl) (by kernel_rfl) (by kernel_rfl)
  have h27 := @run_callFunc_extern Tryd.prog 215 _ (ReflectliteType.abiMethod fun t => do pure (.int .u8 (← Rtype.kind t))) Tryd.func215 (by kernel_rfl) (by kernel_rfl) (by kernel_rfl) (by kernel_rfl)
  have h37 := @run_callFunc_extern Tryd.prog 229 _ (ReflectliteType.method ReflectliteType.elem) Tryd.func229 (by kernel_rfl) (by kernel_rfl) (by kernel_rfl) (by kernel_rfl)
  have h38 := @run_callFunc_extern Tryd.prog 230 _ (ReflectliteType.relation "Implements" ReflectliteType.implements_) Tryd.func230 (by kernel_rfl) (by kernel_rfl) (by kernel_rfl) (by kernel_rfl)
  have h10 := @run_callFunc_extern Tryd.prog 157 _ ReflectliteType.typeOf Tryd.func157 (by kernel_rfl) (by kernel_rfl) (by kernel_rfl) (by kernel_rfl)
  have h35 := @run_callFunc_extern Tryd.prog 227 _ (ReflectliteType.relation "AssignableTo" ReflectliteType.assignableTo) Tryd.func227 (by kernel_rfl) (by kernel_rfl) (by kernel_rfl) (by kernel_rfl)
  have h11 := @run_callFunc_extern Tryd.prog 158 _ (ReflectliteValue.method (ReflectliteValue.valueError "reflectlite.Value.Elem" 0) ReflectliteValue.elem) Tryd.func158 (by kernel_rfl) (by kernel_rfl) (by kernel_rfl) (by kernel_rfl)
  have h12 := @run_callFunc_extern Tryd.prog 159 _ ReflectliteValue.set Tryd.func159 (by kernel_rfl) (by kernel_rfl) (by kernel_rfl) (by kernel_rfl)
  have tO := ea_typeOf25
  have mA := ea_methodAssignableTo
  have a25 := ea_assignable25
  have v25 := ea_valueOf25
  have f6 := ea_valueOf27
  have f7 := ea_type27
  have mK := ea_methodKind
  have mE := ea_methodElem
  have mI := ea_methodImplements
  have k27 := ea_kind27
  have k25 := ea_kind25
  have e27 := ea_elem27
  have i25 := ea_implements25
  have n8 := ea_isNil27 ⟨w.heap.size, 0, none⟩ t ((w.alloc (.cells #[.pointer (some t)] 155)).alloc (.cells #[.pointer (some ⟨9, 155, none⟩), .pointer (some ⟨w.heap.size, 0, none⟩), .int .u64 150] 198)) (by simp)
  have hlt : 0 < w.heap.size := by
    rcases Nat.lt_or_ge 0 w.heap.size with h | h
    · exact h
    · simp [World.cell?, Array.getElem?_eq_none h] at hg
  have hg2 : ((w.alloc (.cells #[.pointer (some t)] 155)).alloc (.cells #[.pointer (some ⟨9, 155, none⟩), .pointer (some ⟨w.heap.size, 0, none⟩), .int .u64 150] 198)).cell? ⟨0, 0, none⟩ = some (.iface 237 (.agg #[.pointer (some ⟨9, 93, none⟩)])) := by
    rw [World.cell?_alloc_lt _ _ ⟨0, 0, none⟩ (by simp <;> omega), World.cell?_alloc_lt _ _ ⟨0, 0, none⟩ hlt]; exact hg
  have htl : t.block < w.heap.size := by
    rcases Nat.lt_or_ge t.block w.heap.size with h | h
    · exact h
    · simp [World.cell?, Array.getElem?_eq_none h] at ht0
  have el := ea_elemV27 ⟨w.heap.size, 0, none⟩ t (((w.alloc (.cells #[.pointer (some t)] 155)).alloc (.cells #[.pointer (some ⟨9, 155, none⟩), .pointer (some ⟨w.heap.size, 0, none⟩), .int .u64 150] 198)).alloc (.cells #[.pointer (some ⟨9, 155, none⟩), .pointer (some ⟨w.heap.size, 0, none⟩), .int .u64 150] 198)) (by rw [World.cell?_alloc_lt _ _ ⟨w.heap.size, 0, none⟩ (by simp; omega)]; simp)
  have st := ea_set25 t ⟨w.heap.size + 1 + 1 + 1, 0, none⟩ e old ((((w.alloc (.cells #[.pointer (some t)] 155)).alloc (.cells #[.pointer (some ⟨9, 155, none⟩), .pointer (some ⟨w.heap.size, 0, none⟩), .int .u64 150] 198)).alloc (.cells #[.pointer (some ⟨9, 155, none⟩), .pointer (some ⟨w.heap.size, 0, none⟩), .int .u64 150] 198)).alloc (.cells #[.int .i64 e] 152))
    (by rw [World.cell?_alloc_at _ _ _ _ (by simp)]; rfl)
    (by rw [World.cell?_alloc_lt _ _ t (by simp <;> omega), World.cell?_alloc_lt _ _ t (by simp <;> omega), World.cell?_alloc_lt _ _ t (by simp <;> omega), World.cell?_alloc_lt _ _ t htl]; exact ht0)
    (by rw [World.frozen?_alloc_old _ _ t (by simp; omega), World.frozen?_alloc_old _ _ t (by simp; omega), World.frozen?_alloc_old _ _ t (by simp; omega), World.frozen?_alloc_old _ _ t (Nat.ne_of_lt htl)]; exact hf0)
  go_enter Tryd.func94, Tryd.ntmps94
  go_wp2
  refine wp_loop_rounds 1 ?_
  rw [rounds_succ]
  go_wp2
  go_ret
  exact ⟨rfl, rfl⟩
end
theorem impl_codeOf.nil (w : World) : Calls Tryd.prog 59 #[.nilIface] w fun e w' => e = .returned (.int .i64 0) ∧ Below w.heap.size w w' := by
  have HB0 : Aside0 (Below w.heap.size w w) := ⟨Below.refl _ _⟩
  obtain ⟨s0, Sz0⟩ : ∃ s0, Aside0 (w.heap.size = s0) := ⟨_, ⟨rfl⟩⟩
  have hw0 : w.heap.size ≤ s0 := Nat.le_of_eq Sz0.out
  have hw1 : s0 ≤ w.heap.size := Nat.le_of_eq Sz0.out.symm
  have Z152 : ∀ w, (zeroValue 152).run Tryd.prog w = .ok (.int .i64 0) w := fun _ => by kernel_rfl
  go_enter Tryd.func59, Tryd.ntmps59
  go_wp2_with (first | ((with_reducible refine gate_dst (N := 3) rfl ?_); refine hx_alloc rfl 3 rfl 152 rfl Sz0 (.int .i64 0) #[.int .i64 0] Z152 rfl ?_; intro w1 s1 L1 Sz1 b_ g_; have H1 := Aside0.mk g_; have HB1 := Aside0.mk (below_then HB0.out HB0.out.size b_); clear b_ g_ HB0) | (go_at_call 94; refine (ea_nil _ _).mono ?_; rintro e_ w2 ⟨rfl, rfl⟩))
  go_ret
  exact ⟨rfl, HB1.out⟩
set_option maxHeartbeats 8000000 in
set_option maxRecDepth 100000 in
theorem impl_codeOf.hit (c : Int) (w : World) (hg : (w.cell? ⟨0, 0, none⟩ = some (.iface 237 (.agg #[.pointer (some ⟨9, 93, none⟩)])))) : Calls Tryd.prog 59 #[.iface 152 (.int .i64 c)] w fun e w' => e = .returned (.int .i64 c) ∧ Below w.heap.size w w' := by
  have HB0 : Aside0 (Below w.heap.size w w) := ⟨Below.refl _ _⟩
  obtain ⟨s0, Sz0⟩ : ∃ s0, Aside0 (w.heap.size = s0) := ⟨_, ⟨rfl⟩⟩
  have hw0 : w.heap.size ≤ s0 := Nat.le_of_eq Sz0.out
  have hw1 : s0 ≤ w.heap.size := Nat.le_of_eq Sz0.out.symm
  have HG := Aside0.mk hg
  clear hg
  have Z152 : ∀ w, (zeroValue 152).run Tryd.prog w = .ok (.int .i64 0) w := fun _ => by kernel_rfl
  go_enter Tryd.func59, Tryd.ntmps59
  go_wp2_with (first | ((with_reducible refine gate_dst (N := 3) rfl ?_); refine hx_alloc rfl 3 rfl 152 rfl Sz0 (.int .i64 0) #[.int .i64 0] Z152 rfl ?_; intro w1 s1 L1 Sz1 b_ g_; have H1 := Aside0.mk g_; have HB1 := Aside0.mk (below_then HB0.out HB0.out.size b_); clear b_ g_ HB0) | (go_at_call 94; refine (ea_hit c ⟨s0, 0, none⟩ (.int .i64 0) _ (ea_kept HB1.out HG.out (ea_lt HG.out)) (blk_cell H1.out 0) (ea_thaw H1.out 0)).mono ?_; rintro e_ w2 ⟨rfl, hw2⟩; have hz_ := Sz1.out; have hc_ := ea_cell hw2 H1.out (by omega); have HB2 := Aside0.mk (ea_below hw2 HB1.out (by omega) (by omega)); clear hw2 hz_))
  go_ret
  exact ⟨rfl, HB2.out⟩
def impl_rightSize.f (a0 : Int) : Option (Bool) := if (Int.tmod a0 512) = 0 then (if (wrap64 (Int.tdiv a0 512)) ≥ 64 then (some (decide ((wrap64 (Int.tdiv a0 512)) ≤ 2048))) else (some false)) else (some false)
set_option maxHeartbeats 8000000 in
set_option maxRecDepth 100000 in
theorem impl_rightSize.calls (a0 : Int) (r : Bool) (w : World) (h : impl_rightSize.f a0 = some r) :
    Calls Tryd.prog 69 #[.int .i64 a0] w fun e w' => e = .returned (.bool r) ∧ Drawn0 w w' := by
  have H : (if (Int.tmod a0 512) = 0 then (if (wrap64 (Int.tdiv a0 512)) ≥ 64 then (some (decide ((wrap64 (Int.tdiv a0 512)) ≤ 2048))) else (some false)) else (some false)) = some r := h
  clear h
  by_cases c2 : (Int.tmod a0 512) = 0
  · rw [if_pos c2] at H
    have c2b0 : ((Int.tmod a0 512) == 0) = true := beq_iff_eq.mpr c2
    have c2b1 : ((Int.tmod a0 512) != 0) = false := bne_eq_false_iff_eq.mpr c2
    clear c2
    by_cases c3 : (wrap64 (Int.tdiv a0 512)) ≥ 64
    · rw [if_pos c3] at H
      have c3b0 : decide (64 ≤ (wrap64 (Int.tdiv a0 512))) = true := decide_eq_true c3
      clear c3
      obtain rfl := Option.some.inj H
      go_enter Tryd.func69, Tryd.ntmps69
      go_wp2
      go_ret
      exact ⟨by first | rfl | (simp; done) | (simp [*]; done), by repeat (first | exact Drawn0.refl _ | apply Drawn0.step)⟩
    · rw [if_neg c3] at H
      have c3b0 : decide (64 ≤ (wrap64 (Int.tdiv a0 512))) = false := decide_eq_false c3
      clear c3
      obtain rfl := Option.some.inj H
      go_enter Tryd.func69, Tryd.ntmps69
      go_wp2
      go_ret
      exact ⟨by first | rfl | (simp; done) | (simp [*]; done), by repeat (first | exact Drawn0.refl _ | apply Drawn0.step)⟩
  · rw [if_neg c2] at H
    have c2b0 : ((Int.tmod a0 512) == 0) = false := beq_eq_false_iff_ne.mpr c2
    have c2b1 : ((Int.tmod a0 512) != 0) = true := bne_iff_ne.mpr c2
    obtain rfl := Option.some.inj H
    go_enter Tryd.func69, Tryd.ntmps69
    go_wp2
    go_ret
    exact ⟨by first | rfl | (simp; done) | (simp [*]; done), by repeat (first | exact Drawn0.refl _ | apply Drawn0.step)⟩
open Go.Proofs.YtknlpjoidjgciaaDoorW Go.Proofs.YtknlpjoidjgciaaDoorW.PrintHand Go.Proofs.YtknlpjoidjgciaaDoorW.PrintHx
open Go.Proofs.YtknlpjoidjgciaaDoorW.PrintLe Go.Proofs.YtknlpjoidjgciaaDoorW.PrintGrow Go.Proofs.YtknlpjoidjgciaaDoorW.PrintDec Go.Proofs.YtknlpjoidjgciaaDoorW.PrintIno Go.Proofs.YtknlpjoidjgciaaDoorW.PrintTab2 Go.Proofs.YtknlpjoidjgciaaDoorW.PrintTab3 Go.Proofs.YtknlpjoidjgciaaDoorW.PrintFsi Go.Proofs.YtknlpjoidjgciaaDoorW.PrintFsb Go.Proofs.YtknlpjoidjgciaaDoorW.PrintFsd Go.Proofs.YtknlpjoidjgciaaDoorW.PrintCrc Go.Proofs.YtknlpjoidjgciaaDoorW.PrintChs
set_option maxHeartbeats 8000000 in
set_option maxRecDepth 100000 in
theorem impl_blockOf.calls (A0 : Option Addr) (c0 : Nat) (l0 : List Int) (b : Nat) (w : World) (hr0 : Kd.C (Kd.int .u8) w A0 l0.length l0) (hc0 : l0.length ≤ c0) (hb : 512 * b + 512 ≤ l0.length) (hl : l0.length ≤ 1048576) :
    Calls Tryd.prog 102 #[.slice A0 l0.length c0, .int .i64 (b : Int)] w fun e w' => (∃ A' c', e = .returned (.slice A' (blk l0 b).length c') ∧ Kd.C (Kd.int .u8) w' A' (blk l0 b).length (blk l0 b) ∧ (blk l0 b).length ≤ c') ∧ Below w.heap.size w w' := by
  have HR0 := Aside0.mk hr0
  have HC0 := Aside0.mk hc0
  have HB := Aside0.mk hb
  have HLO := Aside0.mk (show wrap64 ((b : Int) * 512) = ((512 * b : Nat) : Int) by unfold wrap64; omega)
  have HHI := Aside0.mk (show wrap64 (wrap64 ((b : Int) + 1) * 512) = ((512 * b + 512 : Nat) : Int) by rw [show wrap64 ((b : Int) + 1) = ((b + 1 : Nat) : Int) by unfold wrap64; omega]; unfold wrap64; omega)
  clear hr0 hc0 hb hl
  go_enter Tryd.func102, Tryd.ntmps102
  go_wp2_with (first | ((with_reducible refine gate_dst (N := 11) rfl ?_); refine hx_mid rfl 22 5 (.tmp 5) (.tmp 7) (.tmp 10) rfl A0 c0 l0 (512 * b) (512 * b + 512) rfl (by rw [← HLO.out]; rfl) (by rw [← HHI.out]; rfl) Tryd.underlying22 (by kernel_rfl) (by omega) (by have := HB.out; omega) HC0.out HR0.out ?_; intro A1 c1 q1 hq1 hr1 hc1))
  have hq := hq1.out
  rw [show 512 * b + 512 - 512 * b = 512 by omega] at hq
  subst hq
  go_ret
  exact ⟨⟨A1, c1, rfl, hr1.out, hc1.out⟩, Below.refl _ _⟩
end Go.Proofs.YtknlpjoidjgciaaDoor.PFnExactSnapshots
