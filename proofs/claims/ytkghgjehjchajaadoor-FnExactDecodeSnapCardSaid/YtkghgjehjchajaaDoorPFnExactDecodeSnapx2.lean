-- Written by a program of this session (patch_print.py over the kit print)
import Derived.Test.YtkghgjehjchajaaDoorPFnExactDecodeSnapx0
import Derived.Test.YtkghgjehjchajaaDoorPFnExactDecodeSnapx1
namespace Go.Proofs.YtkghgjehjchajaaDoor.PFnExactDecodeSnap
open Go.RowKit Go.Proofs.YtkghgjehjchajaaDoorW.PrintWords Go.Proofs.YtkghgjehjchajaaDoorW.PrintLast Go.Proofs.YtkghgjehjchajaaDoorW.PrintMore
attribute [local go_sem] max2_int min2_int max_two min_two max_three min_three max_four min_four   -- for this text's walks alone
set_option linter.unusedVariables false
set_option linter.unusedSimpArgs false

open Go.Proofs.YtkghgjehjchajaaDoorW Go.Proofs.YtkghgjehjchajaaDoorW.PrintHand Go.Proofs.YtkghgjehjchajaaDoorW.PrintHx
/-! ### spec_DecodeSnap: function 16 -/
open Go.Proofs.YtkghgjehjchajaaDoorW.PrintLe Go.Proofs.YtkghgjehjchajaaDoorW.PrintGrow Go.Proofs.YtkghgjehjchajaaDoorW.PrintDec Go.Proofs.YtkghgjehjchajaaDoorW.PrintIno Go.Proofs.YtkghgjehjchajaaDoorW.PrintTab2 Go.Proofs.YtkghgjehjchajaaDoorW.PrintTab3 Go.Proofs.YtkghgjehjchajaaDoorW.PrintFsi Go.Proofs.YtkghgjehjchajaaDoorW.PrintFsb Go.Proofs.YtkghgjehjchajaaDoorW.PrintFsd Go.Proofs.YtkghgjehjchajaaDoorW.PrintCrc Go.Proofs.YtkghgjehjchajaaDoorW.PrintSnp Go.Proofs.YtkghgjehjchajaaDoorW.PrintSnd
set_option maxHeartbeats 8000000 in
set_option maxRecDepth 100000 in
theorem spec_DecodeSnap.calls (A0 : Option Addr) (c0 : Nat) (l0 : List Int) (k : Nat) (c : Int) (hck : spec_CheckName.f k (nameS l0) = some c) (hcz : c = 0 → (nameS l0).size ≤ 26) (x1 : Int) (s1 : ByteArray) (p1 q1 : Int) (r1 : List Int) (k1 : Int) (w : World) (hr0 : Kd.C (Kd.int .u8) w A0 l0.length l0) (hc0 : l0.length ≤ c0) (hby : ∀ x ∈ l0, 0 ≤ x ∧ x ≤ 255) (h : snapA c l0 = (x1, s1, p1, q1, r1, k1)) :
    Calls Tryd.prog 16 #[.slice A0 l0.length c0] w fun e w' => e = .returned (.tuple #[.agg (snapC x1 s1 p1 q1 r1).toArray, .int .i64 k1]) ∧ Below w.heap.size w w' := by
  unfold snapA at h
  have HBY : Aside0 (Byt l0) := ⟨hby⟩
  have HR0 := Aside0.mk hr0
  have HC0 := Aside0.mk hc0
  have HCK := Aside0.mk hck
  have HCZ := Aside0.mk hcz
  clear hby hr0 hc0 hck hcz
  have Z33 : ∀ w, (zeroValue 33).run Tryd.prog w = .ok (.agg (snapC 0 ByteArray.empty 0 0 (List.replicate 15 0)).toArray) w := fun _ => by kernel_rfl
  have HB0 : Aside0 (Below w.heap.size w w) := ⟨Below.refl _ _⟩
  obtain ⟨s0, Sz0⟩ : ∃ s0, Aside0 (w.heap.size = s0) := ⟨_, ⟨rfl⟩⟩
  have hw0 : w.heap.size ≤ s0 := Nat.le_of_eq Sz0.out
  have hw1 : s0 ≤ w.heap.size := Nat.le_of_eq Sz0.out.symm
  by_cases hl : l0.length = 512
  case neg =>
    have hd : decS (l0.getD 8 0) (nameS l0) (gcap (seg l0 40 8)) (gcap (seg l0 48 8)) (rootA (seg l0 56 64)) c l0 = (0, ByteArray.empty, 0, 0, (List.replicate 15 0), 21) := by unfold decS; rw [if_neg (fun h_ => hl h_.1)]
    rw [hd] at h
    simp only [Prod.mk.injEq] at h
    obtain ⟨rfl, rfl, rfl, rfl, rfl, rfl⟩ := h
    clear hd
    have k0 : ((l0.length : Int) != 512) = true := bne_iff_ne.2 (by omega)
    clear hl
    go_enter Tryd.func16, Tryd.ntmps16
    go_wp2_with (first | ((with_reducible refine gate_dst (N := 2) rfl ?_); refine hx_alloc rfl 2 rfl 33 rfl Sz0 (.agg (snapC 0 ByteArray.empty 0 0 (List.replicate 15 0)).toArray) (snapC 0 ByteArray.empty 0 0 (List.replicate 15 0)).toArray Z33 (by simp [Value.cells]) ?_; intro w1 s1 Ls1 Ss1 b_ g_; have H2 := Aside0.mk g_; have HB1 := Aside0.mk (below_then HB0.out HB0.out.size b_); clear b_ g_ HB0) | ((with_reducible refine gate_store (t := 33) (p := 2) (v := .tmp 16) rfl ?_); refine hx_store rfl rfl 33 (.tmp 2) (.tmp 16) rfl s0 19 rfl (snapC 0 ByteArray.empty 0 0 (List.replicate 15 0)).toArray rfl (by kernel_rfl) snapZ_size (snapC_one _ _ _ _ _) H2.out snapZ_size ?_; intro we t_ gg_; have HE := Aside0.mk gg_; have HEB := Aside0.mk (t_.below HB1.out (by omega)); clear t_ gg_ H2 HB1 ))
    exact bodyPost_ret (results_ct rfl _ _ s0 33 (snapC 0 ByteArray.empty 0 0 (List.replicate 15 0)).toArray (0, 0) _ rfl HE.out Tryd.underlying33 rfl (by kernel_rfl)) rfl ⟨rfl, HEB.out⟩
  have k0 : ((l0.length : Int) != 512) = false := by rw [hl]; rfl
  have HL := Aside0.mk hl
  obtain ⟨ad, rfl, _⟩ := Kd.at_int HR0.out 9 (by decide) (by rw [hl]; decide)
  obtain ⟨v9, h9⟩ : ∃ v, v = l0.getD 9 0 := ⟨_, rfl⟩
  have H9 := Aside0.mk (show rd l0 9 = v9 by rw [h9]; exact rdN l0 9)
  have R9 := Aside0.mk (show 0 ≤ v9 ∧ v9 ≤ 255 by rw [h9]; exact (one_byte HBY.out 9 (by omega)).2)
  have q9 : ((9 : Int) < (l0.length : Int)) = True := eq_true (by omega)
  have q9n : (9 < l0.length) = True := eq_true (by omega)
  by_cases hb : 26 < v9
  case pos =>
    have hd := snap_long hl (by rw [← h9]; exact hb) (l0.getD 8 0) (gcap (seg l0 40 8)) (gcap (seg l0 48 8)) (rootA (seg l0 56 64)) c
    rw [hd] at h
    simp only [Prod.mk.injEq] at h
    obtain ⟨rfl, rfl, rfl, rfl, rfl, rfl⟩ := h
    have cb0 : decide (26 < v9) = true := decide_eq_true hb
    clear hd hl h9 hb
    go_enter Tryd.func16, Tryd.ntmps16
    go_wp2_with (first | ((with_reducible refine gate_dst (N := 2) rfl ?_); refine hx_alloc rfl 2 rfl 33 rfl Sz0 (.agg (snapC 0 ByteArray.empty 0 0 (List.replicate 15 0)).toArray) (snapC 0 ByteArray.empty 0 0 (List.replicate 15 0)).toArray Z33 (by simp [Value.cells]) ?_; intro w1 s1 Ls1 Ss1 b_ g_; have H2 := Aside0.mk g_; have HB1 := Aside0.mk (below_then HB0.out HB0.out.size b_); clear b_ g_ HB0; obtain ⟨ad9_, e9_, hx9_⟩ := Kd.at_int (Kd.C_below HR0.out HB1.out) 9 (by decide) (by rw [HL.out]; decide); cases e9_; rw [H9.out] at hx9_; have hx9b_ : w1.cell? { block := ad.block, off := ad.off + 9 } = some (.int .u8 v9) := (by simpa [Addr.add] using hx9_); clear hx9_) | ((with_reducible refine gate_store (t := 33) (p := 2) (v := .tmp 16) rfl ?_); refine hx_store rfl rfl 33 (.tmp 2) (.tmp 16) rfl s0 19 rfl (snapC 0 ByteArray.empty 0 0 (List.replicate 15 0)).toArray rfl (by kernel_rfl) snapZ_size (snapC_one _ _ _ _ _) H2.out snapZ_size ?_; intro we t_ gg_; have HE := Aside0.mk gg_; have HEB := Aside0.mk (t_.below HB1.out (by omega)); clear t_ gg_ H2 HB1 ))
    exact bodyPost_ret (results_ct rfl _ _ s0 33 (snapC 0 ByteArray.empty 0 0 (List.replicate 15 0)).toArray (0, 0) _ rfl HE.out Tryd.underlying33 rfl (by kernel_rfl)) rfl ⟨rfl, HEB.out⟩
  have cb0 : decide (26 < v9) = false := decide_eq_false hb
  obtain ⟨x, hx⟩ : ∃ z, z = l0.getD 8 0 := ⟨_, rfl⟩
  obtain ⟨s, hs⟩ : ∃ z, z = nameS l0 := ⟨_, rfl⟩
  obtain ⟨p, hp⟩ : ∃ z, z = gcap (seg l0 40 8) := ⟨_, rfl⟩
  obtain ⟨q, hq⟩ : ∃ z, z = gcap (seg l0 48 8) := ⟨_, rfl⟩
  obtain ⟨r, hr⟩ : ∃ z, z = rootA (seg l0 56 64) := ⟨_, rfl⟩
  have NR := Aside0.mk (show r.length = 15 by rw [hr]; exact rootOf_length _ _)
  have H8 := Aside0.mk (show rd l0 8 = x by rw [hx]; exact rdN l0 8)
  have R8 := Aside0.mk (show 0 ≤ x ∧ x ≤ 255 by rw [hx]; exact (one_byte HBY.out 8 (by omega)).2)
  have HCKs := Aside0.mk (show spec_CheckName.f k s = some c by rw [hs]; exact HCK.out)
  have HCZs := Aside0.mk (show c = 0 → s.size ≤ 26 by rw [hs]; exact HCZ.out)
  rw [← hx, ← hs, ← hp, ← hq, ← hr] at h
  obtain ⟨m, hm⟩ : ∃ m, m = nameLen l0 := ⟨_, rfl⟩
  have hmv : v9 = (m : Int) := by rw [hm, ← name_min (l := l0) (by rw [← h9]; exact R9.out.1), ← h9, if_neg hb]
  have hm26 : m ≤ 26 := by rw [hm]; exact nameLen_le l0
  have EW := Aside0.mk (show IntKind.u8.wrap (10 + v9) = ((10 + m : Nat) : Int) by rw [hmv, Int.natCast_add]; exact u8_small _ (by omega) (by omega))
  have info5_ : (Tryd.prog.info? 5).map (fun i => (i.zero, i.size, i.bytes)) = some (some (.int .u8 0), 1, 1) := by kernel_rfl
  obtain ⟨i0_, hi0_, _, hsz_, _⟩ := info_parts info5_
  obtain ⟨A26, hcut26, hA26, hC26⟩ := print_mid_of (P := Tryd.prog) (Value.int .u8) 0 28 5 .i64 .u8 Tryd.underlying28 hi0_ hsz_ (some ad) c0 l0 (10 : Int) ((10 + m : Nat) : Int) (by decide) (by omega) (by rw [hl]; omega) HC0.out
  obtain ⟨q26, hq26⟩ : ∃ q, q = (l0.take (((10 + m : Nat) : Int)).toNat).drop (10 : Int).toNat := ⟨_, rfl⟩
  rw [← hq26] at hcut26 hA26 hC26
  obtain ⟨k26, hk26⟩ : ∃ k, k = c0 - (10 : Int).toNat := ⟨_, rfl⟩
  rw [← hk26] at hcut26 hC26
  clear hk26
  have HSQ := Aside0.mk (show strOfNums q26 = s by rw [hs, nameS, hq26, ← hm, Int.toNat_natCast, show (10 : Int).toNat = 10 from rfl, take_drop, show 10 + m - 10 = m by omega])
  have HR26 := Aside0.mk (Kd.C_of_reads (h1 := fun _ => rfl) (hA26 _ (Kd.reads_of_C HR0.out)))
  have HC26 := Aside0.mk hC26
  clear hq26 hA26 hC26
  obtain ⟨A29, hcut29, hA29, hC29⟩ := print_mid_of (P := Tryd.prog) (Value.int .u8) 0 28 5 .i64 .i64 Tryd.underlying28 hi0_ hsz_ (some ad) c0 l0 (40 : Int) (48 : Int) (by decide) (by decide) (by rw [HL.out]; decide) HC0.out
  obtain ⟨q29, hq29⟩ : ∃ q, q = (l0.take (48 : Int).toNat).drop (40 : Int).toNat := ⟨_, rfl⟩
  rw [← hq29] at hcut29 hA29 hC29
  obtain ⟨k29, hk29⟩ : ∃ k, k = c0 - (40 : Int).toNat := ⟨_, rfl⟩
  rw [← hk29] at hcut29 hC29
  clear hk29
  have hs29 : q29 = seg l0 40 8 := by rw [hq29]; exact take_drop l0 40 48
  have HR29 := Aside0.mk (Kd.C_of_reads (h1 := fun _ => rfl) (hA29 _ (Kd.reads_of_C HR0.out)))
  have HC29 := Aside0.mk hC29
  have EG29 := Aside0.mk (show spec_l02Get.f 20 q29 = some p by rw [hp, hs29]; exact get_f (seg l0 40 8) (seg_byt HBY.out _ _) (by rw [seg_le _ _ (by rw [HL.out]; decide)]; decide) 20 (by decide))
  clear hs29 hq29 hA29 hC29
  obtain ⟨A32, hcut32, hA32, hC32⟩ := print_mid_of (P := Tryd.prog) (Value.int .u8) 0 28 5 .i64 .i64 Tryd.underlying28 hi0_ hsz_ (some ad) c0 l0 (48 : Int) (56 : Int) (by decide) (by decide) (by rw [HL.out]; decide) HC0.out
  obtain ⟨q32, hq32⟩ : ∃ q, q = (l0.take (56 : Int).toNat).drop (48 : Int).toNat := ⟨_, rfl⟩
  rw [← hq32] at hcut32 hA32 hC32
  obtain ⟨k32, hk32⟩ : ∃ k, k = c0 - (48 : Int).toNat := ⟨_, rfl⟩
  rw [← hk32] at hcut32 hC32
  clear hk32
  have hs32 : q32 = seg l0 48 8 := by rw [hq32]; exact take_drop l0 48 56
  have HR32 := Aside0.mk (Kd.C_of_reads (h1 := fun _ => rfl) (hA32 _ (Kd.reads_of_C HR0.out)))
  have HC32 := Aside0.mk hC32
  have EG32 := Aside0.mk (show spec_l02Get.f 20 q32 = some q by rw [hq, hs32]; exact get_f (seg l0 48 8) (seg_byt HBY.out _ _) (by rw [seg_le _ _ (by rw [HL.out]; decide)]; decide) 20 (by decide))
  clear hs32 hq32 hA32 hC32
  obtain ⟨A35, hcut35, hA35, hC35⟩ := print_mid_of (P := Tryd.prog) (Value.int .u8) 0 28 5 .i64 .i64 Tryd.underlying28 hi0_ hsz_ (some ad) c0 l0 (56 : Int) (120 : Int) (by decide) (by decide) (by rw [HL.out]; decide) HC0.out
  obtain ⟨q35, hq35⟩ : ∃ q, q = (l0.take (120 : Int).toNat).drop (56 : Int).toNat := ⟨_, rfl⟩
  rw [← hq35] at hcut35 hA35 hC35
  obtain ⟨k35, hk35⟩ : ∃ k, k = c0 - (56 : Int).toNat := ⟨_, rfl⟩
  rw [← hk35] at hcut35 hC35
  clear hk35
  have hs35 : q35 = seg l0 56 64 := by rw [hq35]; exact take_drop l0 56 120
  have HR35 := Aside0.mk (Kd.C_of_reads (h1 := fun _ => rfl) (hA35 _ (Kd.reads_of_C HR0.out)))
  have HC35 := Aside0.mk hC35
  have EG35 := Aside0.mk (show spec_l02RootOf.f q35 = some r by rw [hr, hs35]; exact if_pos ⟨seg_le _ _ (by rw [HL.out]; decide), seg_byt HBY.out _ _⟩)
  clear hs35 hq35 hA35 hC35
  have BU : ∀ z : List Int, z.length = 15 → ∀ w, (Instr.build 33 #[(0, .int .i64 x), (1, .string s), (2, .int .i64 p), (3, .int .i64 q), (4, .agg (nums .i64 z).toArray)]).run Tryd.prog w = .ok (.agg (snapC x s p q z).toArray) w := by
    intro z h w_
    obtain ⟨x0, b0, rfl, h0⟩ := cons_of_len h
    obtain ⟨x1, b1, rfl, h1⟩ := cons_of_len h0
    obtain ⟨x2, b2, rfl, h2⟩ := cons_of_len h1
    obtain ⟨x3, b3, rfl, h3⟩ := cons_of_len h2
    obtain ⟨x4, b4, rfl, h4⟩ := cons_of_len h3
    obtain ⟨x5, b5, rfl, h5⟩ := cons_of_len h4
    obtain ⟨x6, b6, rfl, h6⟩ := cons_of_len h5
    obtain ⟨x7, b7, rfl, h7⟩ := cons_of_len h6
    obtain ⟨x8, b8, rfl, h8⟩ := cons_of_len h7
    obtain ⟨x9, b9, rfl, h9⟩ := cons_of_len h8
    obtain ⟨x10, b10, rfl, h10⟩ := cons_of_len h9
    obtain ⟨x11, b11, rfl, h11⟩ := cons_of_len h10
    obtain ⟨x12, b12, rfl, h12⟩ := cons_of_len h11
    obtain ⟨x13, b13, rfl, h13⟩ := cons_of_len h12
    obtain ⟨x14, b14, rfl, h14⟩ := cons_of_len h13
    obtain rfl := List.length_eq_zero_iff.mp h14
    exact run_build w_ 33 _ _ (by kernel_rfl)
  replace BU := BU r NR.out
  have BU_ := Aside0.mk BU
  clear BU
  have q8 : ((8 : Int) < (l0.length : Int)) = True := eq_true (by omega)
  have q8n : (8 < l0.length) = True := eq_true (by omega)
  clear hx hs hp hq hr hm hmv hm26 h9 hb hl
  go_enter Tryd.func16, Tryd.ntmps16
  go_wp2_with (first | ((with_reducible refine gate_dst (N := 2) rfl ?_); refine hx_alloc rfl 2 rfl 33 rfl Sz0 (.agg (snapC 0 ByteArray.empty 0 0 (List.replicate 15 0)).toArray) (snapC 0 ByteArray.empty 0 0 (List.replicate 15 0)).toArray Z33 (by simp [Value.cells]) ?_; intro w1 s1 Ls1 Ss1 b_ g_; have H2 := Aside0.mk g_; have HB1 := Aside0.mk (below_then HB0.out HB0.out.size b_); clear b_ g_ HB0; obtain ⟨ad9_, e9_, hx9_⟩ := Kd.at_int (Kd.C_below HR0.out HB1.out) 9 (by decide) (by rw [HL.out]; decide); cases e9_; rw [H9.out] at hx9_; have hx9b_ : w1.cell? { block := ad.block, off := ad.off + 9 } = some (.int .u8 v9) := (by simpa [Addr.add] using hx9_); clear hx9_))
  refine wp_region_grow_last 22 [Is (.slice (some ad) l0.length c0), Is (.pointer (some (ad.add (8 : Int).toNat))), Is (.int .u8 x), Is (.int .i64 x), Is (.slice (some ad) l0.length c0), Is (.slice (some ad) l0.length c0), Is (.pointer (some (ad.add (9 : Int).toNat))), Is (.int .u8 v9), Is (.int .u8 ((10 + m : Nat) : Int)), Is (.slice A26 q26.length k26), Is (.string s), Is (.slice (some ad) l0.length c0), Is (.slice A29 q29.length k29), Is (.int .i64 p), Is (.slice (some ad) l0.length c0), Is (.slice A32 q32.length k32), Is (.int .i64 q), Is (.slice (some ad) l0.length c0), Is (.slice A35 q35.length k35), Is (.agg (nums .i64 r).toArray), Is (.agg (snapC x s p q r).toArray), New 33 (snapC 0 ByteArray.empty 0 0 (List.replicate 15 0)).toArray w1.heap.size] (by kernel_rfl) (by kernel_rfl) (by kernel_rfl) (by kernel_rfl) (allst_cons st_is (allst_cons st_is (allst_cons st_is (allst_cons st_is (allst_cons st_is (allst_cons st_is (allst_cons st_is (allst_cons st_is (allst_cons st_is (allst_cons st_is (allst_cons st_is (allst_cons st_is (allst_cons st_is (allst_cons st_is (allst_cons st_is (allst_cons st_is (allst_cons st_is (allst_cons st_is (allst_cons st_is (allst_cons st_is (allst_cons st_is (allst_cons st_new allst_nil)))))))))))))))))))))) ?_ (fun w2 hgn => ?_)
  · refine steps_cons ?_ ?_
    · refine stepO_val rfl [] [0] (by kernel_rfl) (.slice (some ad) l0.length c0) (fun a w_ hg hf => ?_) (fun w_ _ => rfl)
      obtain ⟨_, ⟨o0, _⟩⟩ := hf
      have e0 : a.tmps[0]? = some (.slice (some ad) l0.length c0) := o0.trans rfl
      unfold execOp
      simp only [PrintLast.eval_of e0]
      rfl
    refine steps_cons ?_ ?_
    · refine stepO_val rfl [(0, 17)] [] (by kernel_rfl) (.pointer (some (ad.add (8 : Int).toNat))) (fun a w_ hg hf => ?_) (fun w_ _ => rfl)
      obtain ⟨⟨⟨_, e17, rfl⟩, _⟩, _⟩ := hf
      replace e17 : a.tmps[17]? = some (.slice (some ad) l0.length c0) := e17
      unfold execOp
      simp only [PrintLast.eval_of e17, Act.eval]
      go_simp
      (try rfl)
    refine steps_cons ?_ ?_
    · refine stepO_val rfl [(1, 18)] [] (by kernel_rfl) (.int .u8 x) (fun a w_ hg hf => ?_) (fun w_ _ => rfl)
      obtain ⟨⟨⟨_, e18, rfl⟩, _⟩, _⟩ := hf
      replace e18 : a.tmps[18]? = some (.pointer (some (ad.add (8 : Int).toNat))) := e18
      obtain ⟨ad_, e_, c_⟩ := Kd.at_int (Kd.C_below HR0.out (below_then HB1.out HB1.out.size hg)) 8 (by decide) (by rw [HL.out]; decide)
      cases e_
      rw [H8.out] at c_
      have c2_ : w_.cell? { block := ad.block, off := ad.off + 8 } = some (.int .u8 x) := (by simpa [Addr.add] using c_)
      unfold execOp
      simp only [PrintLast.eval_of e18, Act.eval]
      go_simp
      (try rfl)
    refine steps_cons ?_ ?_
    · refine stepO_val rfl [(2, 19)] [] (by kernel_rfl) (.int .i64 x) (fun a w_ hg hf => ?_) (fun w_ _ => rfl)
      obtain ⟨⟨⟨_, e19, rfl⟩, _⟩, _⟩ := hf
      replace e19 : a.tmps[19]? = some (.int .u8 x) := e19
      unfold execOp
      simp only [PrintLast.eval_of e19, Act.eval]
      have r8_ := R8.out
      go_simp
      (try rw [PrintLast.i64_w])
      (try (rw [show wrap64 x = x by unfold wrap64; omega]))
      (try rfl)
    refine steps_cons ?_ ?_
    · refine stepO_val rfl [] [0] (by kernel_rfl) (.slice (some ad) l0.length c0) (fun a w_ hg hf => ?_) (fun w_ _ => rfl)
      obtain ⟨_, ⟨o0, _⟩⟩ := hf
      have e0 : a.tmps[0]? = some (.slice (some ad) l0.length c0) := o0.trans rfl
      unfold execOp
      simp only [PrintLast.eval_of e0]
      rfl
    refine steps_cons ?_ ?_
    · refine stepO_val rfl [] [0] (by kernel_rfl) (.slice (some ad) l0.length c0) (fun a w_ hg hf => ?_) (fun w_ _ => rfl)
      obtain ⟨_, ⟨o0, _⟩⟩ := hf
      have e0 : a.tmps[0]? = some (.slice (some ad) l0.length c0) := o0.trans rfl
      unfold execOp
      simp only [PrintLast.eval_of e0]
      rfl
    refine steps_cons ?_ ?_
    · refine stepO_val rfl [(5, 22)] [] (by kernel_rfl) (.pointer (some (ad.add (9 : Int).toNat))) (fun a w_ hg hf => ?_) (fun w_ _ => rfl)
      obtain ⟨⟨⟨_, e22, rfl⟩, _⟩, _⟩ := hf
      replace e22 : a.tmps[22]? = some (.slice (some ad) l0.length c0) := e22
      unfold execOp
      simp only [PrintLast.eval_of e22, Act.eval]
      go_simp
      (try rfl)
    refine steps_cons ?_ ?_
    · refine stepO_val rfl [(6, 23)] [] (by kernel_rfl) (.int .u8 v9) (fun a w_ hg hf => ?_) (fun w_ _ => rfl)
      obtain ⟨⟨⟨_, e23, rfl⟩, _⟩, _⟩ := hf
      replace e23 : a.tmps[23]? = some (.pointer (some (ad.add (9 : Int).toNat))) := e23
      obtain ⟨ad_, e_, c_⟩ := Kd.at_int (Kd.C_below HR0.out (below_then HB1.out HB1.out.size hg)) 9 (by decide) (by rw [HL.out]; decide)
      cases e_
      rw [H9.out] at c_
      have c2_ : w_.cell? { block := ad.block, off := ad.off + 9 } = some (.int .u8 v9) := (by simpa [Addr.add] using c_)
      unfold execOp
      simp only [PrintLast.eval_of e23, Act.eval]
      go_simp
      (try rfl)
    refine steps_cons ?_ ?_
    · refine stepO_val rfl [(7, 24)] [] (by kernel_rfl) (.int .u8 ((10 + m : Nat) : Int)) (fun a w_ hg hf => ?_) (fun w_ _ => rfl)
      obtain ⟨⟨⟨_, e24, rfl⟩, _⟩, _⟩ := hf
      replace e24 : a.tmps[24]? = some (.int .u8 v9) := e24
      unfold execOp
      simp only [PrintLast.eval_of e24, Act.eval]
      go_simp
      (try (have e_ := EW.out; rw [Int.natCast_add] at e_; exact e_))
      (try rfl)
    refine steps_cons ?_ ?_
    · refine stepO_val rfl [(4, 21), (8, 25)] [] (by kernel_rfl) (.slice A26 q26.length k26) (fun a w_ hg hf => ?_) (fun w_ _ => rfl)
      obtain ⟨⟨⟨_, e21, rfl⟩, ⟨_, e25, rfl⟩, _⟩, _⟩ := hf
      replace e21 : a.tmps[21]? = some (.slice (some ad) l0.length c0) := e21
      replace e25 : a.tmps[25]? = some (.int .u8 ((10 + m : Nat) : Int)) := e25
      have hel_ : Tryd.prog.elem 28 = 5 := by simp [Program.elem, Tryd.underlying28]
      have hsl_ := run_sliceAt_slice (P := Tryd.prog) (w := w_) 28 (.slice (some ad) l0.length c0) (some (.int .i64 10)) (some (.int .u8 ((10 + m : Nat) : Int))) none (by rw [hel_]; exact Tryd.underlying28)
      have hc_ : a.eval (.const (.int .i64 10)) = .int .i64 10 := rfl
      unfold execOp
      simp only [PrintLast.eval_of e21, PrintLast.eval_of e25, hc_, Option.map_some, Option.map_none, Sem.run_bind, hsl_, hcut26, Result.andThen_ok, Sem.run_pure]
    refine steps_cons ?_ ?_
    · refine stepO_val rfl [(9, 26)] [] (by kernel_rfl) (.string s) (fun a w_ hg hf => ?_) (fun w_ _ => rfl)
      obtain ⟨⟨⟨_, e26, rfl⟩, _⟩, _⟩ := hf
      replace e26 : a.tmps[26]? = some (.slice A26 q26.length k26) := e26
      have h_ := Kd.C_string (P := Tryd.prog) (A := A26) (c := k26) Tryd.underlying28 Tryd.underlying5 Tryd.underlying9 (Kd.C_below HR26.out (below_then HB1.out HB1.out.size hg))
      unfold execOp
      simp only [PrintLast.eval_of e26, Sem.run_bind, h_, Result.andThen_ok, Sem.run_pure]
      rw [HSQ.out]
    refine steps_cons ?_ ?_
    · refine stepO_val rfl [] [0] (by kernel_rfl) (.slice (some ad) l0.length c0) (fun a w_ hg hf => ?_) (fun w_ _ => rfl)
      obtain ⟨_, ⟨o0, _⟩⟩ := hf
      have e0 : a.tmps[0]? = some (.slice (some ad) l0.length c0) := o0.trans rfl
      unfold execOp
      simp only [PrintLast.eval_of e0]
      rfl
    refine steps_cons ?_ ?_
    · refine stepO_val rfl [(11, 28)] [] (by kernel_rfl) (.slice A29 q29.length k29) (fun a w_ hg hf => ?_) (fun w_ _ => rfl)
      obtain ⟨⟨⟨_, e28, rfl⟩, _⟩, _⟩ := hf
      replace e28 : a.tmps[28]? = some (.slice (some ad) l0.length c0) := e28
      unfold execOp
      simp only [PrintLast.eval_of e28, Act.eval]
      go_simp
      (try rfl)
    refine steps_cons ?_ ?_
    · refine stepO_call rfl [(12, 29)] [] (by kernel_rfl) Tryd.func51 (by kernel_rfl) rfl rfl (fun a w_ hg hf => ?_)
      obtain ⟨⟨⟨_, e29, rfl⟩, _⟩, _⟩ := hf
      replace e29 : a.tmps[29]? = some (.slice A29 q29.length k29) := e29
      refine ⟨#[.slice A29 q29.length k29], (by simp only [List.map_toArray, List.map_cons, List.map_nil, PrintLast.eval_of e29]; first | done | rfl), (spec_l02Get.calls 20 A29 k29 q29 p w_ (Kd.C_below HR29.out (below_then HB1.out HB1.out.size hg)) HC29.out EG29.out).mono ?_⟩
      rintro e_ w2_ ⟨rfl, d_⟩
      have b_ := kept_drawn d_
      exact ⟨_, rfl, b_, rfl⟩
    refine steps_cons ?_ ?_
    · refine stepO_val rfl [] [0] (by kernel_rfl) (.slice (some ad) l0.length c0) (fun a w_ hg hf => ?_) (fun w_ _ => rfl)
      obtain ⟨_, ⟨o0, _⟩⟩ := hf
      have e0 : a.tmps[0]? = some (.slice (some ad) l0.length c0) := o0.trans rfl
      unfold execOp
      simp only [PrintLast.eval_of e0]
      rfl
    refine steps_cons ?_ ?_
    · refine stepO_val rfl [(14, 31)] [] (by kernel_rfl) (.slice A32 q32.length k32) (fun a w_ hg hf => ?_) (fun w_ _ => rfl)
      obtain ⟨⟨⟨_, e31, rfl⟩, _⟩, _⟩ := hf
      replace e31 : a.tmps[31]? = some (.slice (some ad) l0.length c0) := e31
      unfold execOp
      simp only [PrintLast.eval_of e31, Act.eval]
      go_simp
      (try rfl)
    refine steps_cons ?_ ?_
    · refine stepO_call rfl [(15, 32)] [] (by kernel_rfl) Tryd.func51 (by kernel_rfl) rfl rfl (fun a w_ hg hf => ?_)
      obtain ⟨⟨⟨_, e32, rfl⟩, _⟩, _⟩ := hf
      replace e32 : a.tmps[32]? = some (.slice A32 q32.length k32) := e32
      refine ⟨#[.slice A32 q32.length k32], (by simp only [List.map_toArray, List.map_cons, List.map_nil, PrintLast.eval_of e32]; first | done | rfl), (spec_l02Get.calls 20 A32 k32 q32 q w_ (Kd.C_below HR32.out (below_then HB1.out HB1.out.size hg)) HC32.out EG32.out).mono ?_⟩
      rintro e_ w2_ ⟨rfl, d_⟩
      have b_ := kept_drawn d_
      exact ⟨_, rfl, b_, rfl⟩
    refine steps_cons ?_ ?_
    · refine stepO_val rfl [] [0] (by kernel_rfl) (.slice (some ad) l0.length c0) (fun a w_ hg hf => ?_) (fun w_ _ => rfl)
      obtain ⟨_, ⟨o0, _⟩⟩ := hf
      have e0 : a.tmps[0]? = some (.slice (some ad) l0.length c0) := o0.trans rfl
      unfold execOp
      simp only [PrintLast.eval_of e0]
      rfl
    refine steps_cons ?_ ?_
    · refine stepO_val rfl [(17, 34)] [] (by kernel_rfl) (.slice A35 q35.length k35) (fun a w_ hg hf => ?_) (fun w_ _ => rfl)
      obtain ⟨⟨⟨_, e34, rfl⟩, _⟩, _⟩ := hf
      replace e34 : a.tmps[34]? = some (.slice (some ad) l0.length c0) := e34
      unfold execOp
      simp only [PrintLast.eval_of e34, Act.eval]
      go_simp
      (try rfl)
    refine steps_cons ?_ ?_
    · refine stepO_call rfl [(18, 35)] [] (by kernel_rfl) Tryd.func52 (by kernel_rfl) rfl rfl (fun a w_ hg hf => ?_)
      obtain ⟨⟨⟨_, e35, rfl⟩, _⟩, _⟩ := hf
      replace e35 : a.tmps[35]? = some (.slice A35 q35.length k35) := e35
      refine ⟨#[.slice A35 q35.length k35], (by simp only [List.map_toArray, List.map_cons, List.map_nil, PrintLast.eval_of e35]; first | done | rfl), (spec_l02RootOf.calls A35 k35 q35 r w_ (Kd.C_below HR35.out (below_then HB1.out HB1.out.size hg)) HC35.out EG35.out).mono ?_⟩
      rintro e_ w2_ ⟨rfl, b_⟩
      exact ⟨_, rfl, b_, rfl⟩
    refine steps_cons ?_ ?_
    · refine stepO_val rfl [(3, 20), (10, 27), (13, 30), (16, 33), (19, 36)] [] (by kernel_rfl) (.agg (snapC x s p q r).toArray) (fun a w_ hg hf => ?_) (fun w_ _ => rfl)
      obtain ⟨⟨⟨_, e20, rfl⟩, ⟨_, e27, rfl⟩, ⟨_, e30, rfl⟩, ⟨_, e33, rfl⟩, ⟨_, e36, rfl⟩, _⟩, _⟩ := hf
      replace e20 : a.tmps[20]? = some (.int .i64 x) := e20
      replace e27 : a.tmps[27]? = some (.string s) := e27
      replace e30 : a.tmps[30]? = some (.int .i64 p) := e30
      replace e33 : a.tmps[33]? = some (.int .i64 q) := e33
      replace e36 : a.tmps[36]? = some (.agg (nums .i64 r).toArray) := e36
      unfold execOp
      simp only [PrintLast.eval_of e20, PrintLast.eval_of e27, PrintLast.eval_of e30, PrintLast.eval_of e33, PrintLast.eval_of e36, List.map_toArray, List.map_cons, List.map_nil, Sem.run_bind, Sem.run_pure, Result.andThen_ok, BU_.out]
    refine steps_cons ?_ ?_
    · refine stepO_alloc rfl [] [] (by kernel_rfl) rfl (.agg (snapC 0 ByteArray.empty 0 0 (List.replicate 15 0)).toArray) (snapC 0 ByteArray.empty 0 0 (List.replicate 15 0)).toArray Z33 (by simp [Value.cells]) (fun _ _ h => h)
    exact steps_nil
  · skip
    refine ends_cons (fun v0_ p0_ => ?_)
    obtain rfl : v0_ = _ := p0_
    refine ends_cons (fun v1_ p1_ => ?_)
    obtain rfl : v1_ = _ := p1_
    refine ends_cons (fun v2_ p2_ => ?_)
    obtain rfl : v2_ = _ := p2_
    refine ends_cons (fun v3_ p3_ => ?_)
    obtain rfl : v3_ = _ := p3_
    refine ends_cons (fun v4_ p4_ => ?_)
    obtain rfl : v4_ = _ := p4_
    refine ends_cons (fun v5_ p5_ => ?_)
    obtain rfl : v5_ = _ := p5_
    refine ends_cons (fun v6_ p6_ => ?_)
    obtain rfl : v6_ = _ := p6_
    refine ends_cons (fun v7_ p7_ => ?_)
    obtain rfl : v7_ = _ := p7_
    refine ends_cons (fun v8_ p8_ => ?_)
    obtain rfl : v8_ = _ := p8_
    refine ends_cons (fun v9_ p9_ => ?_)
    obtain rfl : v9_ = _ := p9_
    refine ends_cons (fun v10_ p10_ => ?_)
    obtain rfl : v10_ = _ := p10_
    refine ends_cons (fun v11_ p11_ => ?_)
    obtain rfl : v11_ = _ := p11_
    refine ends_cons (fun v12_ p12_ => ?_)
    obtain rfl : v12_ = _ := p12_
    refine ends_cons (fun v13_ p13_ => ?_)
    obtain rfl : v13_ = _ := p13_
    refine ends_cons (fun v14_ p14_ => ?_)
    obtain rfl : v14_ = _ := p14_
    refine ends_cons (fun v15_ p15_ => ?_)
    obtain rfl : v15_ = _ := p15_
    refine ends_cons (fun v16_ p16_ => ?_)
    obtain rfl : v16_ = _ := p16_
    refine ends_cons (fun v17_ p17_ => ?_)
    obtain rfl : v17_ = _ := p17_
    refine ends_cons (fun v18_ p18_ => ?_)
    obtain rfl : v18_ = _ := p18_
    refine ends_cons (fun v19_ p19_ => ?_)
    obtain rfl : v19_ = _ := p19_
    refine ends_cons (fun v20_ p20_ => ?_)
    obtain rfl : v20_ = _ := p20_
    refine ends_cons (fun v21_ p21_ => ?_)
    obtain ⟨g21_, l21_, rfl, n21_⟩ := p21_
    refine ends_nil ?_
    simp only [Act.put, List.setIfInBounds_toArray, List.set_cons_succ, List.set_cons_zero]
    have HB2 := Aside0.mk (below_then HB1.out HB1.out.size hgn)
    have H2_2 := Aside0.mk (blk_below H2.out hgn)
    rw [Ss1.out] at l21_
    have N21 := Aside0.mk n21_
    clear n21_ hgn HB1 H2 hx9b_
    simp only [List.drop_succ_cons, List.drop_zero]
    by_cases hg : snapGood x c p q r = true
    case neg =>
      have hd : decS x s p q r c l0 = (0, ByteArray.empty, 0, 0, (List.replicate 15 0), 21) := by unfold decS; rw [if_neg (fun h_ => hg h_.2.1)]
      rw [hd] at h
      simp only [Prod.mk.injEq] at h
      obtain ⟨rfl, rfl, rfl, rfl, rfl, rfl⟩ := h
      clear hd
      have ER := Aside0.mk (show (if snapGood x c p q r = true then (snapBytes x s p q r, (0 : Int)) else ([], 7)) = ([], 7) from if_neg hg)
      clear hg
      go_wp2_with (first | ((with_reducible refine gate_store (t := 33) (p := 4) (v := .tmp 37) rfl ?_); refine hx_store rfl rfl 33 (.tmp 4) (.tmp 37) rfl g21_ 19 rfl (snapC x s p q r).toArray rfl (by kernel_rfl) (snapC_size NR.out) (snapC_one _ _ _ _ _) N21.out snapZ_size ?_; intro w4 t_ gg_; have HG4 := Aside0.mk gg_; have H2_3 := Aside0.mk (t_.keep (show s0 ≠ g21_ by omega) H2_2.out); have HB4 := Aside0.mk (t_.below HB2.out (by omega)); clear t_ gg_ N21 HB2 H2_2) | ((with_reducible refine gate_dst (N := 39) rfl ?_); refine hx_load rfl 33 (.tmp 4) rfl g21_ 19 rfl Tryd.underlying33 rfl (by kernel_rfl) HG4.out (snapC_size NR.out) ?_) | ((with_reducible refine gate_dst (N := 40) rfl ?_); refine goesL_ (some 40) rfl rfl Tryd.func10 (by kernel_rfl) rfl #[.agg (snapC x s p q r).toArray] rfl (by (try simp only [List.map_toArray, List.map_cons, List.map_nil]); first | done | rfl) ?_; refine (spec_EncodeSnap.calls x s p q r NR.out k c HCKs.out HCZs.out [] 7 _ ER.out).mono ?_; rintro e_ w7 ⟨v0_, rfl, R_, b_⟩; refine ⟨_, rfl, ?_⟩; have HG7 := Aside0.mk (blk_below HG4.out b_); have HZ7 := Aside0.mk (blk_below H2_3.out b_); have HB7 := Aside0.mk (below_then HB4.out HB4.out.size b_); clear R_; clear b_ HG4 H2_3 HB4) | ((with_reducible refine gate_store (t := 33) (p := 2) (v := .tmp 52) rfl ?_); refine hx_store rfl rfl 33 (.tmp 2) (.tmp 52) rfl s0 19 rfl (snapC 0 ByteArray.empty 0 0 (List.replicate 15 0)).toArray rfl (by kernel_rfl) snapZ_size (snapC_one _ _ _ _ _) HZ7.out snapZ_size ?_; intro we t_ gg_; have HE := Aside0.mk gg_; have HEB := Aside0.mk (t_.below HB7.out (by omega)); clear t_ gg_ HZ7 HB7 ))
      exact bodyPost_ret (results_ct rfl _ _ s0 33 (snapC 0 ByteArray.empty 0 0 (List.replicate 15 0)).toArray (0, 0) _ rfl HE.out Tryd.underlying33 rfl (by kernel_rfl)) rfl ⟨rfl, HEB.out⟩
    have hs0 : ((strOfNums (snapBytes x s p q r)).toList == (strOfNums l0).toList) = decide (snapBytes x s p q r = l0) := strOf_eq (snapBytes_byt x s p q r) HBY.out
    by_cases he : snapBytes x s p q r = l0
    case neg =>
      have hd : decS x s p q r c l0 = (0, ByteArray.empty, 0, 0, (List.replicate 15 0), 21) := by unfold decS; rw [if_neg (fun h_ => he h_.2.2)]
      rw [hd] at h
      simp only [Prod.mk.injEq] at h
      obtain ⟨rfl, rfl, rfl, rfl, rfl, rfl⟩ := h
      clear hd
      rw [decide_eq_false he] at hs0
      obtain ⟨rb, hrb⟩ : ∃ b, b = snapBytes x s p q r := ⟨_, rfl⟩
      have ER := Aside0.mk (show (if snapGood x c p q r = true then (snapBytes x s p q r, (0 : Int)) else ([], 7)) = (rb, 0) by rw [if_pos hg, hrb])
      rw [← hrb] at hs0
      clear hrb hg he
      go_wp2_with (first | ((with_reducible refine gate_store (t := 33) (p := 4) (v := .tmp 37) rfl ?_); refine hx_store rfl rfl 33 (.tmp 4) (.tmp 37) rfl g21_ 19 rfl (snapC x s p q r).toArray rfl (by kernel_rfl) (snapC_size NR.out) (snapC_one _ _ _ _ _) N21.out snapZ_size ?_; intro w4 t_ gg_; have HG4 := Aside0.mk gg_; have H2_3 := Aside0.mk (t_.keep (show s0 ≠ g21_ by omega) H2_2.out); have HB4 := Aside0.mk (t_.below HB2.out (by omega)); clear t_ gg_ N21 HB2 H2_2) | ((with_reducible refine gate_dst (N := 39) rfl ?_); refine hx_load rfl 33 (.tmp 4) rfl g21_ 19 rfl Tryd.underlying33 rfl (by kernel_rfl) HG4.out (snapC_size NR.out) ?_) | ((with_reducible refine gate_dst (N := 40) rfl ?_); refine goesL_ (some 40) rfl rfl Tryd.func10 (by kernel_rfl) rfl #[.agg (snapC x s p q r).toArray] rfl (by (try simp only [List.map_toArray, List.map_cons, List.map_nil]); first | done | rfl) ?_; refine (spec_EncodeSnap.calls x s p q r NR.out k c HCKs.out HCZs.out rb 0 _ ER.out).mono ?_; rintro e_ w7 ⟨v0_, rfl, R_, b_⟩; obtain ⟨Ab, cb, rfl⟩ := Kd.R_slice R_; refine ⟨_, rfl, ?_⟩; have HG7 := Aside0.mk (blk_below HG4.out b_); have HZ7 := Aside0.mk (blk_below H2_3.out b_); have HB7 := Aside0.mk (below_then HB4.out HB4.out.size b_); have hcv1 := Kd.C_string (P := Tryd.prog) (A := Ab) (c := cb) Tryd.underlying28 Tryd.underlying5 Tryd.underlying9 (Kd.R_reads' R_).2.2; have hcv2 := Kd.C_string (P := Tryd.prog) (A := (some ad)) (c := c0) Tryd.underlying28 Tryd.underlying5 Tryd.underlying9 (Kd.C_below HR0.out HB7.out); clear R_; clear b_ HG4 H2_3 HB4) | ((with_reducible refine gate_store (t := 33) (p := 2) (v := .tmp 52) rfl ?_); refine hx_store rfl rfl 33 (.tmp 2) (.tmp 52) rfl s0 19 rfl (snapC 0 ByteArray.empty 0 0 (List.replicate 15 0)).toArray rfl (by kernel_rfl) snapZ_size (snapC_one _ _ _ _ _) HZ7.out snapZ_size ?_; intro we t_ gg_; have HE := Aside0.mk gg_; have HEB := Aside0.mk (t_.below HB7.out (by omega)); clear t_ gg_ HZ7 HB7 ))
      exact bodyPost_ret (results_ct rfl _ _ s0 33 (snapC 0 ByteArray.empty 0 0 (List.replicate 15 0)).toArray (0, 0) _ rfl HE.out Tryd.underlying33 rfl (by kernel_rfl)) rfl ⟨rfl, HEB.out⟩
    have hd : decS x s p q r c l0 = (x, s, p, q, r, 0) := by unfold decS; rw [if_pos ⟨HL.out, hg, he⟩]
    rw [hd] at h
    simp only [Prod.mk.injEq] at h
    obtain ⟨rfl, rfl, rfl, rfl, rfl, rfl⟩ := h
    rw [decide_eq_true he] at hs0
    clear hd
    obtain ⟨rb, hrb⟩ : ∃ b, b = snapBytes x s p q r := ⟨_, rfl⟩
    have ER := Aside0.mk (show (if snapGood x c p q r = true then (snapBytes x s p q r, (0 : Int)) else ([], 7)) = (rb, 0) by rw [if_pos hg, hrb])
    rw [← hrb] at hs0
    clear hrb hg he
    go_wp2_with (first | ((with_reducible refine gate_store (t := 33) (p := 4) (v := .tmp 37) rfl ?_); refine hx_store rfl rfl 33 (.tmp 4) (.tmp 37) rfl g21_ 19 rfl (snapC x s p q r).toArray rfl (by kernel_rfl) (snapC_size NR.out) (snapC_one _ _ _ _ _) N21.out snapZ_size ?_; intro w4 t_ gg_; have HG4 := Aside0.mk gg_; have H2_3 := Aside0.mk (t_.keep (show s0 ≠ g21_ by omega) H2_2.out); have HB4 := Aside0.mk (t_.below HB2.out (by omega)); clear t_ gg_ N21 HB2 H2_2) | ((with_reducible refine gate_dst (N := 39) rfl ?_); refine hx_load rfl 33 (.tmp 4) rfl g21_ 19 rfl Tryd.underlying33 rfl (by kernel_rfl) HG4.out (snapC_size NR.out) ?_) | ((with_reducible refine gate_dst (N := 40) rfl ?_); refine goesL_ (some 40) rfl rfl Tryd.func10 (by kernel_rfl) rfl #[.agg (snapC x s p q r).toArray] rfl (by (try simp only [List.map_toArray, List.map_cons, List.map_nil]); first | done | rfl) ?_; refine (spec_EncodeSnap.calls x s p q r NR.out k c HCKs.out HCZs.out rb 0 _ ER.out).mono ?_; rintro e_ w7 ⟨v0_, rfl, R_, b_⟩; obtain ⟨Ab, cb, rfl⟩ := Kd.R_slice R_; refine ⟨_, rfl, ?_⟩; have HG7 := Aside0.mk (blk_below HG4.out b_); have HZ7 := Aside0.mk (blk_below H2_3.out b_); have HB7 := Aside0.mk (below_then HB4.out HB4.out.size b_); have hcv1 := Kd.C_string (P := Tryd.prog) (A := Ab) (c := cb) Tryd.underlying28 Tryd.underlying5 Tryd.underlying9 (Kd.R_reads' R_).2.2; have hcv2 := Kd.C_string (P := Tryd.prog) (A := (some ad)) (c := c0) Tryd.underlying28 Tryd.underlying5 Tryd.underlying9 (Kd.C_below HR0.out HB7.out); clear R_; clear b_ HG4 H2_3 HB4) | ((with_reducible refine gate_dst (N := 53) rfl ?_); refine hx_load rfl 33 (.tmp 4) rfl g21_ 19 rfl Tryd.underlying33 rfl (by kernel_rfl) HG7.out (snapC_size NR.out) ?_) | ((with_reducible refine gate_store (t := 33) (p := 2) (v := .tmp 53) rfl ?_); refine hx_store rfl rfl 33 (.tmp 2) (.tmp 53) rfl s0 19 rfl (snapC x s p q r).toArray rfl (by kernel_rfl) (snapC_size NR.out) (snapC_one _ _ _ _ _) HZ7.out snapZ_size ?_; intro we t_ gg_; have HE := Aside0.mk gg_; have HEB := Aside0.mk (t_.below HB7.out (by omega)); clear t_ gg_ HZ7 HB7 ))
    exact bodyPost_ret (results_ct rfl _ _ s0 33 (snapC x s p q r).toArray (0, 0) _ rfl HE.out Tryd.underlying33 rfl (by rw [snapC_size NR.out]; kernel_rfl)) rfl ⟨rfl, HEB.out⟩

/-! ### laws_toByteS: function 17 -/
def laws_toByteS.l0 : Nat → List Int → List Int → Int → Option (List Int)
  | 0, _, _, _ => none
  | k + 1, x0, x3, x4 => if x4 < (x0.length : Int) then (if 0 ≤ x4 then (if x4 < (x3.length : Int) then (laws_toByteS.l0 k x0 (x3.set (x4 : Int).toNat (rd x0 x4)) (wrap64 (x4 + 1))) else (none)) else (none)) else (some x3)
def laws_toByteS.f (k : Nat) (l0 : List Int) : Option (List Int) := if 0 ≤ (l0.length : Int) then (if ((l0.length : Int) : Int).toNat ≤ 281474976710656 then (laws_toByteS.l0 k l0 (List.replicate ((l0.length : Int) : Int).toNat 0) 0) else (none)) else (none)
theorem laws_toByteS.mono_l : ∀ k, (∀ y0 y1 y2, LeO (laws_toByteS.l0 k y0 y1 y2) (laws_toByteS.l0 (k + 1) y0 y1 y2))
  | 0 => fun _ _ _ r h => by simp [laws_toByteS.l0] at h
  | k + 1 => by
    have ih0 := laws_toByteS.mono_l k
    · intro y0 y1 y2
      unfold laws_toByteS.l0
      repeat' first
      | (with_reducible exact ih0 _ _ _)
      | (with_reducible exact LeO.refl _)
      | (with_reducible exact LeO.none _)
      | (with_reducible refine LeO.ite ?_ ?_)
      | (with_reducible refine LeO.bind ?_ (fun _ => ?_))
      | exact ih0 _ _ _
      | exact LeO.none _
      | refine LeO.ite ?_ ?_
      | refine LeO.bind ?_ (fun _ => ?_)
theorem laws_toByteS.mono : ∀ a0 k, LeO (laws_toByteS.f k a0) (laws_toByteS.f (k + 1) a0) := by
  intro a0 k
  have ih0 := laws_toByteS.mono_l k
  unfold laws_toByteS.f
  repeat' first
      | (with_reducible exact ih0 _ _ _)
      | (with_reducible exact LeO.refl _)
      | (with_reducible exact LeO.none _)
      | (with_reducible refine LeO.ite ?_ ?_)
      | (with_reducible refine LeO.bind ?_ (fun _ => ?_))
      | exact ih0 _ _ _
      | exact LeO.none _
      | refine LeO.ite ?_ ?_
      | refine LeO.bind ?_ (fun _ => ?_)
set_option maxHeartbeats 8000000 in
set_option maxRecDepth 100000 in
theorem laws_toByteS.calls (k : Nat) (A0 : Option Addr) (c0 : Nat) (l0 : List Int) (r : List Int) (w : World) (hr0 : Kd.C (Kd.int .u8) w A0 l0.length l0) (hc0 : l0.length ≤ c0) (h : laws_toByteS.f k l0 = some r) :
    Calls Tryd.prog 17 #[.slice A0 l0.length c0] w fun e w' => ∃ v0_ : Value, e = .returned (v0_) ∧ Kd.R (Kd.int .u8) 5 w' w.heap.size (fun _ => True) v0_ r ∧ Below w.heap.size w w' := by
  have HR0 := Aside0.mk hr0
  have HC0 := Aside0.mk hc0
  clear hr0 hc0
  have HB := Aside0.mk (Below.refl w.heap.size w)
  have H : (if 0 ≤ (l0.length : Int) then (if ((l0.length : Int) : Int).toNat ≤ 281474976710656 then (laws_toByteS.l0 k l0 (List.replicate ((l0.length : Int) : Int).toNat 0) 0) else (none)) else (none)) = some r := h
  clear h
  by_cases c2 : 0 ≤ (l0.length : Int)
  · rw [if_pos c2] at H
    have c2b0 := eq_true c2
    have c2b1 : decide (0 ≤ (l0.length : Int)) = true := decide_eq_true c2
    clear c2
    by_cases c3 : ((l0.length : Int) : Int).toNat ≤ 281474976710656
    · rw [if_pos c3] at H
      have c3b0 := eq_true c3
      have c3b1 : decide (((l0.length : Int) : Int).toNat ≤ 281474976710656) = true := decide_eq_true c3
      clear c3
      obtain ⟨y138, hy138⟩ : ∃ y_ : List Int, y_ = (List.replicate ((l0.length : Int) : Int).toNat 0) := ⟨_, rfl⟩
      replace H : (laws_toByteS.l0 k l0 y138 0) = some r := by first | (rw [hy138]; with_reducible exact H) | (have H2_ := (Option.bind_some _ _).symm.trans H; rw [hy138]; with_reducible exact H2_) | (have H2_ := (Option.bind_some _ _).symm.trans H; with_reducible exact H2_) | with_reducible exact H | (rw [hy138]; exact H) | exact H
      have Ny138 := Aside0.mk hy138
      clear hy138
      have H' := Aside0.mk H
      clear H
      go_enter Tryd.func17, Tryd.ntmps17
      go_wp2_with (first | ((with_reducible refine gate_dst (N := 7) rfl ?_); refine Kd.R_make (Kd.int .u8) _ 5 rfl (N := 7) rfl 28 _ _ rfl (l0.length : Int) rfl rfl Tryd.underlying28 (.int .u8 0) 1 info5 rfl (by decide) (by omega) 0 (ok := fun _ => True) (okp := fun _ => True) rfl (fun _ hk => hk) trivial (of_decide_eq_true (by first | (with_reducible assumption) | assumption)) (Nat.le_trans (Nat.mul_le_mul_right _ (of_decide_eq_true (by first | (with_reducible assumption) | assumption) : (l0.length : Int).toNat ≤ 281474976710656)) (by omega)) (Below.refl _ _) (Nat.le_refl _) ?_; intro v139 w4 ho5 hb hg_ hnew_; clear hg_ hnew_; (first | rw [← Ny138.out] at ho5 | (simp only [Int.reduceToNat] at ho5; rw [← Ny138.out] at ho5)); have n0_ := Aside0.mk (Kd.R_lower ho5 (below_size (by repeat (first | (with_reducible first | exact HB.out | apply below_alloc | apply pw_below_drewN | apply below_drew1) | exact HB.out)))); have n1_ := Aside0.mk (below_step (by repeat (first | (with_reducible first | exact HB.out | apply below_alloc | apply pw_below_drewN | apply below_drew1) | exact HB.out)) hb); clear HB; have HO140 := n0_; have HB := n1_; clear n0_ n1_; clear hb ho5))
      go_loopg [4] k (fun kq v4 w' => ∃ (x3_1 : List Int) (x4_1 : Int), v4 = .int .i64 x4_1 ∧ Aside0 (laws_toByteS.l0 kq l0 x3_1 x4_1 = some r) ∧ Aside0 (kq ≤ k) ∧ Aside0 (Kd.R (Kd.int .u8) 5 w' w.heap.size (fun _ => True) v139 x3_1) ∧ Aside0 (Below w.heap.size w w'))
      case atStart => exact ⟨(y138), (0), (by first | rfl | (simp; done) | (simp [*]; done)), H', ⟨Nat.le_refl _⟩, ⟨by (with_reducible repeat (first | apply Kd.R_alloc | apply Kd.R_drewN | apply Kd.R_drew)); exact HO140.out⟩, ⟨by repeat (first | (with_reducible first | exact HB.out | apply below_alloc | apply pw_below_drewN | apply below_drew1) | exact HB.out)⟩⟩
      case round =>
        clear H'
        try clear c1
        try clear c2
        try clear c2b0
        try clear c2b1
        try clear p2
        try clear c3
        try clear c3b0
        try clear c3b1
        obtain ⟨x3_1, x4_1, rfl, HA, HK1, HO_3, HB⟩ := hrel
        cases gk with
        | zero => exact absurd HA.out (by simp [laws_toByteS.l0])
        | succ k1 =>
          have H := HA.out
          clear HA
          simp only [laws_toByteS.l0] at H
          by_cases c6 : x4_1 < (l0.length : Int)
          · rw [if_pos c6] at H
            have c6b0 : decide (x4_1 < (l0.length : Int)) = true := decide_eq_true c6
            clear c6
            by_cases c7 : 0 ≤ x4_1
            · rw [if_pos c7] at H
              have c7b0 : decide (0 ≤ x4_1) = true := decide_eq_true c7
              clear c7
              by_cases c8 : x4_1 < (x3_1.length : Int)
              · rw [if_pos c8] at H
                have c8b0 : decide (x4_1 < (x3_1.length : Int)) = true := decide_eq_true c8
                clear c8
                obtain ⟨y142, hy142⟩ : ∃ y_ : List Int, y_ = (x3_1.set (x4_1 : Int).toNat (rd l0 x4_1)) := ⟨_, rfl⟩
                replace H : (laws_toByteS.l0 k1 l0 y142 (wrap64 (x4_1 + 1))) = some r := by first | (rw [hy142]; with_reducible exact H) | (have H2_ := (Option.bind_some _ _).symm.trans H; rw [hy142]; with_reducible exact H2_) | (have H2_ := (Option.bind_some _ _).symm.trans H; with_reducible exact H2_) | with_reducible exact H | (rw [hy142]; exact H) | exact H
                have Ny142 := Aside0.mk hy142
                clear hy142
                have H' := Aside0.mk H
                clear H
                have p141 : 0 ≤ (x4_1 : Int) := of_decide_eq_true (by first | (with_reducible assumption) | assumption)
                have q141 : x4_1 < (l0.length : Int) := of_decide_eq_true (by first | (with_reducible assumption) | assumption)
                obtain ⟨ad141, e141, hx141_0⟩ := Kd.at_int HR0.out x4_1 p141 q141
                cases e141
                replace hx141_0 := (HB.out.cell (World.block_lt_of_cell? w _ hx141_0)).trans hx141_0
                replace p141 := eq_true p141
                replace q141 := eq_true q141
                have p9 : 0 ≤ (x4_1 : Int) := of_decide_eq_true (by first | (with_reducible assumption) | assumption)
                have q9 : (x4_1 : Int) < ((x3_1.length : Int) : Int) := of_decide_eq_true (by first | (with_reducible assumption) | assumption)
                obtain ⟨go9, co9, eo9, gb9, gl9, cl9, HG9⟩ := Kd.R_form HO_3.out (by omega)
                (first | cases eo9 | (injection eo9 with ea_ en_ ec_; (first | subst ea_ | (injection ea_ with ea_; subst ea_)); subst ec_; clear en_))
                have GB9 := Aside0.mk gb9
                have GG9 := Aside0.mk HG9
                clear gb9 gl9 HG9
                obtain ⟨hx9_0, hf9_0⟩ := Kd.R_celln 0 HO_3.out (x4_1 : Int) p9 q9
                replace p9 := eq_true p9
                replace q9 := eq_true q9
                have HP10 := Kd.R_putg HO_3.out (x4_1 : Int) (rd l0 x4_1)
                go_wp2_with (first | ((with_reducible refine gate_store (t := 5) (p := 20) rfl ?_); refine store_event (t := 5) (p := 20) (v := ?vo_w11) (w1 := (wr.setCell ⟨go9, (x4_1 : Int).toNat, none⟩ (.int .u8 (rd l0 x4_1)))) ?hg ?ho ?hn ?hr ?_; (case ho => rfl); (case hg => rfl); (case hn => rfl); (case hr => first | (go_simp; done) | (go_simp; rfl)); intro w11 hw; have hg : wr.grownBy w11 (some go9) := (by rw [hw]; exact HP10.2); have hp_ : Kd.R (Kd.int .u8) 5 w11 w.heap.size (fun _ => True) (.slice (some ⟨go9, 0, none⟩) x3_1.length co9) y142 := (by rw [hw, Ny142.out]; exact HP10.1); clear HP10; have n0_ := Aside0.mk (hp_); have n1_ := Aside0.mk ((by rw [hw]; exact below_set (HB.out) GB9.out : Below w.heap.size w w11)); clear HO_3; clear HB; have HO_3 := n0_; have HB := n1_; clear n0_ n1_; clear hg hw hp_))
                go_roundg k1
                case measure => have := HK1.out; omega
                case rel => exact ⟨(y142), (wrap64 (x4_1 + 1)), (by first | rfl | (simp; done) | (simp [*]; done)), H', ⟨by have := HK1.out; omega⟩, ⟨by (with_reducible repeat (first | apply Kd.R_alloc | apply Kd.R_drewN | apply Kd.R_drew)); exact HO_3.out⟩, ⟨by repeat (first | (with_reducible first | exact HB.out | apply below_alloc | apply pw_below_drewN | apply below_drew1) | exact HB.out)⟩⟩
              · rw [if_neg c8] at H
                exact absurd H (by simp)
            · rw [if_neg c7] at H
              exact absurd H (by simp)
          · rw [if_neg c6] at H
            have c6b0 : decide (x4_1 < (l0.length : Int)) = false := decide_eq_false c6
            clear c6
            obtain rfl := Option.some.inj H
            go_wp2
            go_ret
            exact ⟨_, by first | rfl | (simp [errW_none, errW_some] <;> rfl) | (simp [*, errW_none, errW_some] <;> rfl), by (with_reducible repeat (first | apply Kd.R_alloc | apply Kd.R_drewN | apply Kd.R_drew)); exact HO_3.out, by repeat (first | (with_reducible first | exact HB.out | apply below_alloc | apply pw_below_drewN | apply below_drew1) | exact HB.out)⟩
    · rw [if_neg c3] at H
      exact absurd H (by simp)
  · rw [if_neg c2] at H
    exact absurd H (by simp)

/-! ### impl_within: function 76 -/
def impl_within.f (a0 : Int) (a1 : Int) (a2 : Int) : Option (Bool) := if a0 ≥ a1 then (some (decide (a0 ≤ a2))) else (some false)
set_option maxHeartbeats 8000000 in
set_option maxRecDepth 100000 in
theorem impl_within.calls (a0 : Int) (a1 : Int) (a2 : Int) (r : Bool) (w : World) (h : impl_within.f a0 a1 a2 = some r) :
    Calls Tryd.prog 76 #[.int .i64 a0, .int .i64 a1, .int .i64 a2] w fun e w' => e = .returned (.bool r) ∧ Drawn0 w w' := by
  have H : (if a0 ≥ a1 then (some (decide (a0 ≤ a2))) else (some false)) = some r := h
  clear h
  by_cases c4 : a0 ≥ a1
  · rw [if_pos c4] at H
    have c4b0 : decide (a1 ≤ a0) = true := decide_eq_true c4
    clear c4
    obtain rfl := Option.some.inj H
    go_enter Tryd.func76, Tryd.ntmps76
    go_wp2
    go_ret
    exact ⟨by first | rfl | (simp; done) | (simp [*]; done), by repeat (first | exact Drawn0.refl _ | apply Drawn0.step)⟩
  · rw [if_neg c4] at H
    have c4b0 : decide (a1 ≤ a0) = false := decide_eq_false c4
    clear c4
    obtain rfl := Option.some.inj H
    go_enter Tryd.func76, Tryd.ntmps76
    go_wp2
    go_ret
    exact ⟨by first | rfl | (simp; done) | (simp [*]; done), by repeat (first | exact Drawn0.refl _ | apply Drawn0.step)⟩

open Go.Proofs.YtkghgjehjchajaaDoorW Go.Proofs.YtkghgjehjchajaaDoorW.PrintHand Go.Proofs.YtkghgjehjchajaaDoorW.PrintHx
/-! ### impl_CheckName: function 77 -/
def impl_CheckName.l0 : Nat → ByteArray → Nat → Option (Int)
  | 0, _, _ => none
  | k + 1, s, i => if i < s.size then (if (Utf8.decode s i).1 = 47 then (some 7) else (if (Utf8.decode s i).1 = 0 then (some 7) else (impl_CheckName.l0 k s (i + (Utf8.decode s i).2)))) else (some 0)
def impl_CheckName.f (k : Nat) (a0 : ByteArray) : Option (Int) := if a0.toList = ([] : List UInt8) then (some 7) else (if a0.toList = ([46] : List UInt8) then (some 7) else (if a0.toList = ([46, 46] : List UInt8) then (some 7) else (if (a0.size : Int) > 26 then (some 12) else (impl_CheckName.l0 k a0 0))))
theorem impl_CheckName.mono_l : ∀ k s i, LeO (impl_CheckName.l0 k s i) (impl_CheckName.l0 (k + 1) s i)
  | 0, _, _ => LeO.none _
  | k + 1, s, i => by
    have ih := impl_CheckName.mono_l k
    unfold impl_CheckName.l0
    repeat' first
      | exact ih _ _
      | exact LeO.refl _
      | refine LeO.ite ?_ ?_
theorem impl_CheckName.mono : ∀ a0 k, LeO (impl_CheckName.f k a0) (impl_CheckName.f (k + 1) a0) := by
  intro a0 k
  have ih := impl_CheckName.mono_l k
  unfold impl_CheckName.f
  repeat' first
      | exact ih _ _
      | exact LeO.refl _
      | refine LeO.ite ?_ ?_
set_option maxHeartbeats 4000000 in
set_option maxRecDepth 100000 in
theorem impl_CheckName.calls (k : Nat) (a0 : ByteArray) (r : Int) (w : World) (h : impl_CheckName.f k a0 = some r) :
    Calls Tryd.prog 77 #[.string a0] w fun e w' => e = .returned (.int .i64 r) ∧ Below w.heap.size w w' := by
  unfold impl_CheckName.f at h
  have hu9 := Tryd.underlying9
  by_cases c3 : a0.toList = ([] : List UInt8)
  · rw [if_pos c3] at h
    obtain rfl := Option.some.inj h
    have c3b0 : (a0.toList == ([] : List UInt8)) = true := beq_iff_eq.mpr c3
    clear c3
    go_enter Tryd.func77, Tryd.ntmps77
    go_wp2
    go_ret
    exact ⟨rfl, Below.refl _ _⟩
  rw [if_neg c3] at h
  have c3b0 : (a0.toList == ([] : List UInt8)) = false := beq_eq_false_iff_ne.mpr c3
  by_cases c4 : a0.toList = ([46] : List UInt8)
  · rw [if_pos c4] at h
    obtain rfl := Option.some.inj h
    have c4b0 : (a0.toList == ([46] : List UInt8)) = true := beq_iff_eq.mpr c4
    clear c3 c4
    go_enter Tryd.func77, Tryd.ntmps77
    go_wp2
    go_ret
    exact ⟨rfl, Below.refl _ _⟩
  rw [if_neg c4] at h
  have c4b0 : (a0.toList == ([46] : List UInt8)) = false := beq_eq_false_iff_ne.mpr c4
  by_cases c5 : a0.toList = ([46, 46] : List UInt8)
  · rw [if_pos c5] at h
    obtain rfl := Option.some.inj h
    have c5b0 : (a0.toList == ([46, 46] : List UInt8)) = true := beq_iff_eq.mpr c5
    clear c3 c4 c5
    go_enter Tryd.func77, Tryd.ntmps77
    go_wp2
    go_ret
    exact ⟨rfl, Below.refl _ _⟩
  rw [if_neg c5] at h
  have c5b0 : (a0.toList == ([46, 46] : List UInt8)) = false := beq_eq_false_iff_ne.mpr c5
  by_cases c6 : (a0.size : Int) > 26
  · rw [if_pos c6] at h
    obtain rfl := Option.some.inj h
    have c6b0 : decide (26 < (a0.size : Int)) = true := decide_eq_true c6
    have c6b1 : decide (26 < a0.size) = true := decide_eq_true (by omega)
    clear c3 c4 c5 c6
    go_enter Tryd.func77, Tryd.ntmps77
    go_wp2
    go_ret
    exact ⟨rfl, Below.refl _ _⟩
  rw [if_neg c6] at h
  have c6b0 : decide (26 < (a0.size : Int)) = false := decide_eq_false c6
  have c6b1 : decide (26 < a0.size) = false := decide_eq_false (by omega)
  clear c3 c4 c5 c6
  have HR := Aside0.mk h
  clear h
  go_enter Tryd.func77, Tryd.ntmps77
  go_wp2_with (first | (refine wpList_range_str rfl (.tmp 18) 9 rfl a0 rfl Tryd.underlying9 ?_))
  simp only [Act.put, List.setIfInBounds_toArray, List.set_cons_succ, List.set_cons_zero]
  go_loopg [4] k (fun kq v4 wr => ∃ pos : Nat, Aside0 (impl_CheckName.l0 kq a0 pos = some r) ∧ Aside0 (kq ≤ k) ∧ Aside0 (Below w.heap.size w wr) ∧ Aside0 (wr.heap[w.heap.size]? = some (.stringIter a0 pos)))
  case atStart =>
    exact ⟨0, HR, ⟨Nat.le_refl _⟩, ⟨(Below.refl _ _).alloc (Nat.le_refl _) _⟩, ⟨blk_new _ _⟩⟩
  case round =>
    obtain ⟨pos, HA, HK, HB, HI⟩ := hrel
    clear HR c3b0 c4b0 c5b0 c6b0 c6b1
    cases gk with
    | zero => exact absurd HA.out (by simp [impl_CheckName.l0])
    | succ k2 =>
      have H := HA.out
      clear HA
      unfold impl_CheckName.l0 at H
      by_cases c7 : pos < a0.size
      · rw [if_pos c7] at H
        have C7 := Aside0.mk c7
        clear c7
        by_cases c8 : (Utf8.decode a0 pos).1 = 47
        · rw [if_pos c8] at H
          obtain rfl := Option.some.inj H
          have c8b0 : ((((Utf8.decode a0 pos).1 : Nat) : Int) == 47) = true := by rw [c8]; rfl
          clear c8
          go_wp2_with (first | (refine wpList_next_str rfl (.tmp 19) rfl w.heap.size a0 pos rfl HI.out C7.out ?_; intro w_ t_ g_; have HB' := Aside0.mk (t_.below HB.out (Nat.le_refl _)); clear t_ g_))
          go_ret
          exact ⟨rfl, HB'.out⟩
        · rw [if_neg c8] at H
          have c8b0 : ((((Utf8.decode a0 pos).1 : Nat) : Int) == 47) = false := by simpa using (by omega : ¬ (((Utf8.decode a0 pos).1 : Nat) : Int) = 47)
          clear c8
          by_cases c9 : (Utf8.decode a0 pos).1 = 0
          · rw [if_pos c9] at H
            obtain rfl := Option.some.inj H
            have c9b0 : ((((Utf8.decode a0 pos).1 : Nat) : Int) == 0) = true := by rw [c9]; rfl
            clear c9
            go_wp2_with (first | (refine wpList_next_str rfl (.tmp 19) rfl w.heap.size a0 pos rfl HI.out C7.out ?_; intro w_ t_ g_; have HB' := Aside0.mk (t_.below HB.out (Nat.le_refl _)); clear t_ g_))
            go_ret
            exact ⟨rfl, HB'.out⟩
          · rw [if_neg c9] at H
            have c9b0 : ((((Utf8.decode a0 pos).1 : Nat) : Int) == 0) = false := by simpa using c9
            clear c9
            have H' := Aside0.mk H
            clear H
            go_wp2_with (first | (refine wpList_next_str rfl (.tmp 19) rfl w.heap.size a0 pos rfl HI.out C7.out ?_; intro w_ t_ g_; have HB' := Aside0.mk (t_.below HB.out (Nat.le_refl _)); have HI' := Aside0.mk g_; clear t_ g_))
            go_roundg k2
            case measure => have := HK.out; omega
            case rel => exact ⟨_, H', ⟨by have := HK.out; omega⟩, HB', HI'⟩
      · rw [if_neg c7] at H
        obtain rfl := Option.some.inj H
        have C7 := Aside0.mk c7
        clear c7
        go_wp2_with (first | (refine wpList_next_str_end rfl (.tmp 19) rfl w.heap.size a0 pos rfl HI.out C7.out ?_))
        go_ret
        exact ⟨rfl, HB.out⟩

open Go.Proofs.YtkghgjehjchajaaDoorW Go.Proofs.YtkghgjehjchajaaDoorW.PrintHand Go.Proofs.YtkghgjehjchajaaDoorW.PrintHx
/-! ### impl_Root_pointers: function 80 -/
def impl_Root_pointers.f (a0 : List Int) : Option (List Int) := if a0.length = 15 then some (seg a0 1 14) else none
def impl_Root_pointers.T1 : Bool × List (List Nat × List Nat) := (true, [([], []), ([], []), ([1], [1]), ([0, 2], [0, 2]), ([], []), ([4], [4]), ([], []), ([6], [6]), ([5, 7], [5, 7]), ([3, 8, 3], [3, 8]), ([9, 9, 0, 1, 2, 3, 4, 5, 6, 7, 8, 9], [9])])
def impl_Root_pointers.B1 : List Nat := [0, 0, 2, 7, 0, 16, 0, 64, 240, 511, 1023]
theorem impl_Root_pointers.tab1 : rtab .any (opsOf Tryd.f80 1) = impl_Root_pointers.T1 := by kernel_rfl
theorem impl_Root_pointers.bits1 : waitsOk impl_Root_pointers.T1.2 impl_Root_pointers.B1 = true := by kernel_rfl
set_option maxHeartbeats 8000000 in
set_option maxRecDepth 100000 in
theorem impl_Root_pointers.calls (a0 : List Int) (n0 : a0.length = 15) (r : List Int) (w : World) (h : impl_Root_pointers.f a0 = some r) :
    Calls Tryd.prog 80 #[.agg (nums .i64 a0).toArray] w fun e w' => ∃ v0_ : Value, e = .returned (v0_) ∧ Kd.R (Kd.int .i64) 3 w' w.heap.size (fun _ => True) v0_ r ∧ Below w.heap.size w w' := by
  unfold impl_Root_pointers.f at h
  rw [if_pos n0] at h
  obtain rfl := Option.some.inj h
  have N_ := Aside0.mk n0
  clear n0 h
  have info3_ : (Tryd.prog.info? 3).map (fun i => (i.zero, i.size, i.bytes)) = some (some (.int .i64 0), 1, 8) := by kernel_rfl
  have hu22 := Tryd.underlying22
  have HB0 : Aside0 (Below w.heap.size w w) := ⟨Below.refl _ _⟩
  obtain ⟨s0, Sz0⟩ : ∃ s0, Aside0 (w.heap.size = s0) := ⟨_, ⟨rfl⟩⟩
  have hw0 : w.heap.size ≤ s0 := Nat.le_of_eq Sz0.out
  have hw1 : s0 ≤ w.heap.size := Nat.le_of_eq Sz0.out.symm
  go_enter Tryd.func80, Tryd.ntmps80
  go_wp2_with (first | ((with_reducible refine gate_dst (N := 1) rfl ?_); refine hx_box rfl 1 rfl 31 (.tmp 0) rfl Sz0 (.agg (nums .i64 a0).toArray) (nums .i64 a0).toArray rfl rfl ?_; intro w1 s1 L1 Sz1 b1 g_; have H0 := Aside0.mk g_; have HB1 := Aside0.mk (below_then HB0.out HB0.out.size b1); clear g_ HB0 b1))
  have HB := HB1
  have FV := HB1
  refine start_ (n := 11) (S := fun w' => True) (ds := []) #[false, false, false, false, false, false, false, false, false, false, false] (by kernel_rfl) rfl rfl trivial (fun hHeld => ?_)
  refine with_tabW impl_Root_pointers.tab1 impl_Root_pointers.bits1 (fun HT_ HW_ => ?_)
  refine pure_ (i := 1) (N := some 4) (v := ?_) (a' := ?_) #[false, true, false, false, false, false, false, false, false, false, false] rfl rfl (any_of HT_.out (by kernel_rfl)) (fun _ _ _ h => h) (Or.inl ⟨by rfl, ?_⟩) ?_ ?_
  rotate_left
  · intro w'
    go_simp
    with_reducible rfl
  rotate_left
  · simp only [Act.put, List.setIfInBounds_toArray, List.set_cons_zero, List.set_cons_succ, i64_w, i32_w]
    rfl
  refine pure_ (i := 2) (N := some 5) (v := ?_) (a' := ?_) #[false, true, true, false, false, false, false, false, false, false, false] rfl rfl (any_of HT_.out (by kernel_rfl)) (fun _ _ _ h => h) (Or.inl ⟨by rfl, ?_⟩) ?_ ?_
  rotate_left
  · intro w'
    go_simp
    with_reducible rfl
  rotate_left
  · simp only [Act.put, List.setIfInBounds_toArray, List.set_cons_zero, List.set_cons_succ, i64_w, i32_w]
    rfl
  refine pure_ (i := 4) (N := some 7) (v := ?_) (a' := ?_) #[false, true, true, false, true, false, false, false, false, false, false] rfl rfl (any_of HT_.out (by kernel_rfl)) (fun _ _ _ h => h) (Or.inl ⟨by rfl, ?_⟩) ?_ ?_
  rotate_left
  · intro w'
    go_simp
    with_reducible rfl
  rotate_left
  · simp only [Act.put, List.setIfInBounds_toArray, List.set_cons_zero, List.set_cons_succ, i64_w, i32_w]
    rfl
  refine pure_ (i := 6) (N := some 9) (v := ?_) (a' := ?_) #[false, true, true, false, true, false, true, false, false, false, false] rfl rfl (any_of HT_.out (by kernel_rfl)) (fun _ _ _ h => h) (Or.inl ⟨by rfl, ?_⟩) ?_ ?_
  rotate_left
  · intro w'
    go_simp
    with_reducible rfl
  rotate_left
  · simp only [Act.put, List.setIfInBounds_toArray, List.set_cons_zero, List.set_cons_succ, i64_w, i32_w]
    rfl
  refine inv_at [0, 3, 5, 7, 8, 9, 10] (fun a0_ b a w' => ∃ (v0 : Value) (v3 : Value) (v8 : Value) (v9 : Value) (m10_ : Value), a = putSel a0_ b [(0, 3, v0), (3, 6, v3), (5, 8, .int .i64 (a0.getD 13 0)), (7, 10, .int .i64 (a0.getD 14 0)), (8, 11, v8), (9, 12, v9), (10, 2, m10_)] ∧ (Below w.heap.size w w') ∧ (w'.heap[s0]? = some (.cells (nums .i64 a0).toArray 31 (0, 0))) ∧ (∀ k, (v0 : Value).ownBlock = some k → k < w'.heap.size) ∧ (b 0 = true → b 3 = false → Kd.R (Kd.int .i64) 3 w' w.heap.size (fun k => k ≠ s0) v0 []) ∧ (b 3 = true → b 9 = false → Kd.R (Kd.int .i64) 3 w' w.heap.size (fun k => k ≠ s0) v3 ([] ++ seg a0 1 12)) ∧ (b 8 = true → b 9 = false → Kd.R (Kd.int .i64) 3 w' w.heap.size (fun k => k ≠ s0 ∧ some k ≠ (v0 : Value).ownBlock) v8 [a0.getD 13 0, a0.getD 14 0]) ∧ (b 9 = true → Kd.R (Kd.int .i64) 3 w' w.heap.size (fun k => k ≠ s0) v9 (([] ++ seg a0 1 12) ++ [a0.getD 13 0, a0.getD 14 0])) ∧ (b 10 = true → (m10_ : Value) = v9)) HT_.out HW_.out (by kernel_rfl) (by kernel_rfl) ?_ ?_ ?_
  · exact ⟨.bool false, .bool false, .bool false, .bool false, .bool false, by simp only [putSel, Bool.false_eq_true, if_false], HB1.out.drew, blk_drew H0.out, fun k h_ => by simp [Value.ownBlock] at h_, fun h_ => absurd h_ (by decide), fun h_ => absurd h_ (by decide), fun h_ => absurd h_ (by decide), fun h_ => absurd h_ (by decide), fun h_ => absurd h_ (by decide)⟩
  · skip
    clear FV H0 HB
    refine steps_cons ?_ ?_
    · rintro b a w' ⟨v0, v3, v8, v9, m10_, ha, Q_HB, Q_H0, Q_FV, Q_F0, Q_F3, Q_F8, Q_F9, Q_X10_⟩ hb_ hon hoff
      refine ⟨_, rfl, fun K hK => ?_⟩
      replace ha := Aside0.mk ha
      have HB := Aside0.mk Q_HB
      have H0 := Aside0.mk Q_H0
      have FV := Aside0.mk Q_FV
      refine Kd.R_lit_step (Kd.int .i64) (w0 := w) w.heap.size 3 (by rfl) (N := 3) rfl (xs := ([] : List Int)) (inner := []) (ok := fun k => k ≠ s0) (okp := fun _ => False) ?hr (Reps.none _ _) (fun _ h_ => h_.elim) (by have := blk_lt H0.out; omega) HB.out HB.out.size (by simp) ?_
      (case hr => first | (go_simp; done) | (go_simp; rfl))
      intro v_ w_ ho hb hg_ hn_
      refine hK.out _ _ ⟨v_, v3, v8, v9, m10_, (by rw [ha.out]; exact putSel_upk 0 hb_ rfl rfl rfl), hb, blk_grown H0.out hg_ (by simp), Kd.R_lt ho, fun _ _ => ho, fun h0_ _ => absurd ((hoff 3 (by kernel_rfl)).symm.trans h0_) (by decide), fun h0_ h1_ => Kd.R_mono (Kd.R_grown (Kd.R_bound (Q_F8 h0_ h1_)) hg_ (fun _ _ => by simp)) (fun k hk => ⟨hk.1.1, fun e_ => by obtain ⟨b_, h1_, h2_⟩ := hn_; rw [h1_] at e_; injection e_ with e_; have := hk.2.2.1; omega⟩), fun h0_ => absurd ((hoff 9 (by kernel_rfl)).symm.trans h0_) (by decide), fun h0_ => absurd ((hoff 10 (by kernel_rfl)).symm.trans h0_) (by decide)⟩
    refine steps_cons ?_ ?_
    · rintro b a w' ⟨v0, v3, v8, v9, m10_, ha, Q_HB, Q_H0, Q_FV, Q_F0, Q_F3, Q_F8, Q_F9, Q_X10_⟩ hb_ hon hoff
      refine ⟨_, rfl, fun K hK => ?_⟩
      have e3 : a.tmps[3]? = some (v0) := by rw [ha]; exact putSel_on (e := (0, 3, v0)) 0 rfl rfl (hon 0 (by kernel_rfl)) rfl
      have e5 : a.tmps[5]? = some (.slice (some ⟨s0, 1, none⟩) 12 12) := by rw [ha]; exact (putSel_off rfl).trans rfl
      replace ha := Aside0.mk ha
      have HB := Aside0.mk Q_HB
      have H0 := Aside0.mk Q_H0
      have FV := Aside0.mk Q_FV
      have F0 := Aside0.mk (Q_F0 (hon 0 (by kernel_rfl)) hb_)
      refine Kd.R_append_rows_step (Kd.int .i64) (w0 := w) w.heap.size (by rfl) (.tmp 3) (.tmp 5) 122 3 (.int .i64 0) 8 rfl Tryd.underlying122 info3_ rfl (by decide) (by omega) v0 [] (seg a0 1 12) (some ⟨s0, 1, none⟩) 12 12 (fun k => k ≠ s0) (fun _ => False) (eval_of e3) (eval_of e5) F0.out (part_reads H0.out 1 12 (le_len (n := 15) N_.out (by decide)) (by decide)) (fun _ _ h => h) (fun _ h => h.elim) (fun k hk => by have := blk_lt H0.out; omega) HB.out HB.out.size (by decide) ?_
      intro v_ w_ ho hb hg_ hn_
      refine hK.out _ _ ⟨v0, v_, v8, v9, m10_, (by rw [ha.out]; exact putSel_upk 1 hb_ rfl rfl rfl), hb, blk_grown H0.out hg_ (fun e_ => (F0.out.1 s0 e_.symm) rfl), fun k hk => Nat.lt_of_lt_of_le (FV.out k hk) hg_.size, fun _ h1_ => absurd ((up_self b 3).symm.trans h1_) (by decide), fun _ _ => ho, fun h0_ h1_ => Kd.R_grown (Q_F8 h0_ h1_) hg_ (fun k hk => hk.2), fun h0_ => absurd ((hoff 9 (by kernel_rfl)).symm.trans h0_) (by decide), fun h0_ => absurd ((hoff 10 (by kernel_rfl)).symm.trans h0_) (by decide)⟩
    refine steps_cons ?_ ?_
    · rintro b a w' ⟨v0, v3, v8, v9, m10_, ha, Q_HB, Q_H0, Q_FV, Q_F0, Q_F3, Q_F8, Q_F9, Q_X10_⟩ hb_ hon hoff
      refine ⟨_, rfl, fun K hK => ?_⟩
      have e7 : a.tmps[7]? = some (.pointer (some ⟨s0, 13, none⟩)) := by rw [ha]; exact (putSel_off rfl).trans rfl
      replace ha := Aside0.mk ha
      have HB := Aside0.mk Q_HB
      have H0 := Aside0.mk Q_H0
      have FV := Aside0.mk Q_FV
      have c_ := row_cell H0.out 13 (lt_len (n := 15) N_.out (by decide))
      refine value_ (w1 := w') (v := .int .i64 (a0.getD 13 0)) (by rfl) rfl ?_ ?_
      · go_simp
        (try simp only [i64_w])
        try rfl
      refine hK.out _ _ ⟨v0, v3, v8, v9, m10_, (by rw [ha.out]; exact putSel_upk 2 hb_ rfl rfl rfl), Q_HB, Q_H0, Q_FV, Q_F0, Q_F3, fun h0_ _ => absurd ((hoff 8 (by kernel_rfl)).symm.trans h0_) (by decide), fun h0_ => absurd ((hoff 9 (by kernel_rfl)).symm.trans h0_) (by decide), fun h0_ => absurd ((hoff 10 (by kernel_rfl)).symm.trans h0_) (by decide)⟩
    refine steps_cons ?_ ?_
    · rintro b a w' ⟨v0, v3, v8, v9, m10_, ha, Q_HB, Q_H0, Q_FV, Q_F0, Q_F3, Q_F8, Q_F9, Q_X10_⟩ hb_ hon hoff
      refine ⟨_, rfl, fun K hK => ?_⟩
      have e9 : a.tmps[9]? = some (.pointer (some ⟨s0, 14, none⟩)) := by rw [ha]; exact (putSel_off rfl).trans rfl
      replace ha := Aside0.mk ha
      have HB := Aside0.mk Q_HB
      have H0 := Aside0.mk Q_H0
      have FV := Aside0.mk Q_FV
      have c_ := row_cell H0.out 14 (lt_len (n := 15) N_.out (by decide))
      refine value_ (w1 := w') (v := .int .i64 (a0.getD 14 0)) (by rfl) rfl ?_ ?_
      · go_simp
        (try simp only [i64_w])
        try rfl
      refine hK.out _ _ ⟨v0, v3, v8, v9, m10_, (by rw [ha.out]; exact putSel_upk 3 hb_ rfl rfl rfl), Q_HB, Q_H0, Q_FV, Q_F0, Q_F3, fun h0_ _ => absurd ((hoff 8 (by kernel_rfl)).symm.trans h0_) (by decide), fun h0_ => absurd ((hoff 9 (by kernel_rfl)).symm.trans h0_) (by decide), fun h0_ => absurd ((hoff 10 (by kernel_rfl)).symm.trans h0_) (by decide)⟩
    refine steps_cons ?_ ?_
    · rintro b a w' ⟨v0, v3, v8, v9, m10_, ha, Q_HB, Q_H0, Q_FV, Q_F0, Q_F3, Q_F8, Q_F9, Q_X10_⟩ hb_ hon hoff
      refine ⟨_, rfl, fun K hK => ?_⟩
      have e8 : a.tmps[8]? = some (.int .i64 (a0.getD 13 0)) := by rw [ha]; exact putSel_on (e := (5, 8, .int .i64 (a0.getD 13 0))) 2 rfl rfl (hon 5 (by kernel_rfl)) rfl
      have e10 : a.tmps[10]? = some (.int .i64 (a0.getD 14 0)) := by rw [ha]; exact putSel_on (e := (7, 10, .int .i64 (a0.getD 14 0))) 3 rfl rfl (hon 7 (by kernel_rfl)) rfl
      replace ha := Aside0.mk ha
      have HB := Aside0.mk Q_HB
      have H0 := Aside0.mk Q_H0
      have FV := Aside0.mk Q_FV
      refine Kd.R_lit_step (Kd.int .i64) (w0 := w) w.heap.size 3 (by rfl) (N := 11) rfl (xs := ([a0.getD 13 0, a0.getD 14 0] : List Int)) (inner := (nums .i64 [a0.getD 13 0, a0.getD 14 0])) (ok := fun k => k ≠ s0 ∧ some k ≠ (v0 : Value).ownBlock) (okp := fun _ => False) ?hr (reps_ints _) (fun _ h_ => h_.elim) ⟨by have := blk_lt H0.out; omega, fun e_ => Nat.lt_irrefl _ (FV.out _ e_.symm)⟩ HB.out HB.out.size (by simp) ?_
      (case hr => first | (go_simp; done) | (go_simp; rfl))
      intro v_ w_ ho hb hg_ hn_
      refine hK.out _ _ ⟨v0, v3, v_, v9, m10_, (by rw [ha.out]; exact putSel_upk 4 hb_ rfl rfl rfl), hb, blk_grown H0.out hg_ (by simp), fun k hk => Nat.lt_of_lt_of_le (FV.out k hk) hg_.size, fun h0_ h1_ => Kd.R_grown (Q_F0 h0_ h1_) hg_ (fun _ _ => by simp), fun h0_ h1_ => Kd.R_grown (Q_F3 h0_ h1_) hg_ (fun _ _ => by simp), fun _ _ => ho, fun h0_ => absurd ((hoff 9 (by kernel_rfl)).symm.trans h0_) (by decide), fun h0_ => absurd ((hoff 10 (by kernel_rfl)).symm.trans h0_) (by decide)⟩
    refine steps_cons ?_ ?_
    · rintro b a w' ⟨v0, v3, v8, v9, m10_, ha, Q_HB, Q_H0, Q_FV, Q_F0, Q_F3, Q_F8, Q_F9, Q_X10_⟩ hb_ hon hoff
      refine ⟨_, rfl, fun K hK => ?_⟩
      have e6 : a.tmps[6]? = some (v3) := by rw [ha]; exact putSel_on (e := (3, 6, v3)) 1 rfl rfl (hon 3 (by kernel_rfl)) rfl
      have e11 : a.tmps[11]? = some (v8) := by rw [ha]; exact putSel_on (e := (8, 11, v8)) 4 rfl rfl (hon 8 (by kernel_rfl)) rfl
      replace ha := Aside0.mk ha
      have HB := Aside0.mk Q_HB
      have H0 := Aside0.mk Q_H0
      have FV := Aside0.mk Q_FV
      have F3 := Aside0.mk (Q_F3 (hon 3 (by kernel_rfl)) hb_)
      have F8 := Aside0.mk (Q_F8 (hon 8 (by kernel_rfl)) hb_)
      obtain ⟨A8_, c8_, q8_⟩ := Kd.R_slice F8.out
      have F8' := F8.out
      rw [q8_] at F8'
      refine Kd.R_append_rows_step (Kd.int .i64) (w0 := w) w.heap.size (by rfl) (.tmp 6) (.tmp 11) 122 3 (.int .i64 0) 8 rfl Tryd.underlying122 info3_ rfl (by decide) (by omega) v3 ([] ++ seg a0 1 12) [a0.getD 13 0, a0.getD 14 0] _ _ _ (fun k => k ≠ s0) (fun _ => False) (eval_of e6) ((eval_of e11).trans q8_) F3.out (Kd.R_reads' F8').2.2 (fun _ _ h => h) (fun _ h => h.elim) (fun k hk => by have := blk_lt H0.out; omega) HB.out HB.out.size (by rw [List.nil_append, part_len (n := 15) N_.out (by decide)]; show (12 + 2) * 8 ≤ 140737488355328; decide) ?_
      intro v_ w_ ho hb hg_ hn_
      refine hK.out _ _ ⟨v0, v3, v8, v_, m10_, (by rw [ha.out]; exact putSel_upk 5 hb_ rfl rfl rfl), hb, blk_grown H0.out hg_ (fun e_ => (F3.out.1 s0 e_.symm) rfl), fun k hk => Nat.lt_of_lt_of_le (FV.out k hk) hg_.size, fun _ h1_ => absurd ((hon 3 (by kernel_rfl)).symm.trans h1_) (by decide), fun _ h1_ => absurd ((up_self b 9).symm.trans h1_) (by decide), fun _ h1_ => absurd ((up_self b 9).symm.trans h1_) (by decide), fun _ => ho, fun h0_ => absurd ((hoff 10 (by kernel_rfl)).symm.trans h0_) (by decide)⟩
    refine steps_cons ?_ ?_
    · rintro b a w' ⟨v0, v3, v8, v9, m10_, ha, Q_HB, Q_H0, Q_FV, Q_F0, Q_F3, Q_F8, Q_F9, Q_X10_⟩ hb_ hon hoff
      refine ⟨_, rfl, fun K hK => ?_⟩
      have e12 : a.tmps[12]? = some (v9) := by rw [ha]; exact putSel_on (e := (9, 12, v9)) 5 rfl rfl (hon 9 (by kernel_rfl)) rfl
      replace ha := Aside0.mk ha
      have HB := Aside0.mk Q_HB
      have H0 := Aside0.mk Q_H0
      have FV := Aside0.mk Q_FV
      have F9 := Aside0.mk (Q_F9 (hon 9 (by kernel_rfl)))
      refine value_ (w1 := w') (v := v9) (by rfl) rfl ?_ ?_
      · go_simp
        (try simp only [i64_w])
        try rfl
      refine hK.out _ _ ⟨v0, v3, v8, v9, (v9), (by rw [ha.out]; exact putSel_upk 6 hb_ rfl rfl rfl), Q_HB, Q_H0, Q_FV, fun _ h1_ => absurd ((hon 3 (by kernel_rfl)).symm.trans h1_) (by decide), fun _ h1_ => absurd ((hon 9 (by kernel_rfl)).symm.trans h1_) (by decide), fun _ h1_ => absurd ((hon 9 (by kernel_rfl)).symm.trans h1_) (by decide), Q_F9, fun _ => rfl⟩
    exact steps_nil
  · rintro b a w' hall ⟨v0, v3, v8, v9, m10_, ha, Q_HB, Q_H0, Q_FV, Q_F0, Q_F3, Q_F8, Q_F9, Q_X10_⟩
    clear FV H0 HB
    have hb0_ := hall 0 (by kernel_rfl)
    have hb3_ := hall 3 (by kernel_rfl)
    have hb5_ := hall 5 (by kernel_rfl)
    have hb7_ := hall 7 (by kernel_rfl)
    have hb8_ := hall 8 (by kernel_rfl)
    have hb9_ := hall 9 (by kernel_rfl)
    have hb10_ := hall 10 (by kernel_rfl)
    subst ha
    obtain rfl := Q_X10_ hb10_
    simp only [putSel, hb0_, hb3_, hb5_, hb7_, hb8_, hb9_, hb10_, if_true, Act.put, List.setIfInBounds_toArray, List.set_cons_zero, List.set_cons_succ]
    have HB := Aside0.mk Q_HB
    clear Q_HB
    have H0 := Aside0.mk Q_H0
    clear Q_H0
    have FV := Aside0.mk Q_FV
    clear Q_FV
    clear Q_F0
    clear Q_F3
    clear Q_F8
    have F9 := Aside0.mk (Q_F9 hb9_)
    clear Q_F9
    clear hall hb0_ hb3_ hb5_ hb7_ hb8_ hb9_ hb10_
    go_wp2
    go_ret
    have ho := F9.out
    rw [pointers_of a0 N_.out] at ho
    exact ⟨_, rfl, Kd.R_mono ho (fun _ _ => trivial), HB.out⟩

/-! ### impl_isPointer: function 87 -/
def impl_isPointer.f (a0 : Int) (a1 : Int) : Option (Bool) := if a0 = 0 then (some true) else ((impl_within.f a0 2 (wrap64 (a1 - 1))).bind fun t143 => (some t143))
set_option maxHeartbeats 8000000 in
set_option maxRecDepth 100000 in
theorem impl_isPointer.calls (a0 : Int) (a1 : Int) (r : Bool) (w : World) (h : impl_isPointer.f a0 a1 = some r) :
    Calls Tryd.prog 87 #[.int .i64 a0, .int .i64 a1] w fun e w' => e = .returned (.bool r) ∧ Drawn0 w w' := by
  have H : (if a0 = 0 then (some true) else ((impl_within.f a0 2 (wrap64 (a1 - 1))).bind fun t143 => (some t143))) = some r := h
  clear h
  by_cases c3 : a0 = 0
  · rw [if_pos c3] at H
    have c3b0 : (a0 == 0) = true := beq_iff_eq.mpr c3
    have c3b1 : (a0 != 0) = false := bne_eq_false_iff_eq.mpr c3
    clear c3
    obtain rfl := Option.some.inj H
    go_enter Tryd.func87, Tryd.ntmps87
    go_wp2
    go_ret
    exact ⟨by first | rfl | (simp; done) | (simp [*]; done), by repeat (first | exact Drawn0.refl _ | apply Drawn0.step)⟩
  · rw [if_neg c3] at H
    have c3b0 : (a0 == 0) = false := beq_eq_false_iff_ne.mpr c3
    have c3b1 : (a0 != 0) = true := bne_iff_ne.mpr c3
    replace H := Option.bind_eq_some_iff.mp H
    obtain ⟨t143, A40, H⟩ := H
    replace H : (some t143) = some r := H
    have A4 := Aside0.mk A40
    clear A40
    obtain rfl := Option.some.inj H
    go_enter Tryd.func87, Tryd.ntmps87
    go_wp2_with (first | (go_at_call 76; (with_reducible refine (impl_within.calls a0 2 (wrap64 (a1 - 1)) t143 _ A4.out).mono ?_); rintro e w' ⟨rfl, ⟨nd, rfl⟩⟩))
    go_ret
    exact ⟨by first | rfl | (simp; done) | (simp [*]; done), by repeat (first | exact Drawn0.refl _ | apply Drawn0.step)⟩

/-! ### impl_count: function 95 -/
def impl_count.f (a0 : Int) : Option (Int) := some (wrap64 (Int.tdiv (wrap64 ((wrap64 (a0 + 512)) - 1)) 512))
set_option maxHeartbeats 8000000 in
set_option maxRecDepth 100000 in
theorem impl_count.calls (a0 : Int) (r : Int) (w : World) (h : impl_count.f a0 = some r) :
    Calls Tryd.prog 95 #[.int .i64 a0] w fun e w' => e = .returned (.int .i64 r) ∧ Drawn0 w w' := by
  have H : (some (wrap64 (Int.tdiv (wrap64 ((wrap64 (a0 + 512)) - 1)) 512))) = some r := h
  clear h
  obtain rfl := Option.some.inj H
  go_enter Tryd.func95, Tryd.ntmps95
  go_wp2
  go_ret
  exact ⟨by first | rfl | (simp; done) | (simp [*]; done), by repeat (first | exact Drawn0.refl _ | apply Drawn0.step)⟩

open Go.Proofs.YtkghgjehjchajaaDoorW Go.Proofs.YtkghgjehjchajaaDoorW.PrintHand Go.Proofs.YtkghgjehjchajaaDoorW.PrintHx
/-! ### impl_Root_right: function 78 -/
def impl_Root_right.f (a0 : List Int) : Option Bool := some (rootGood a0)
theorem impl_Root_right.within (a b c : Int) : impl_within.f a b c = some (decide (b ≤ a ∧ a ≤ c)) := by
  unfold impl_within.f
  by_cases h : b ≤ a <;> simp [h]
theorem impl_Root_right.ptr (p : Int) : impl_isPointer.f p 2048 = some (ptrOk p) := by
  unfold impl_isPointer.f ptrOk
  by_cases h : p = 0
  · simp [h]
  · rw [if_neg h, impl_Root_right.within, Option.bind_some, show wrap64 (2048 - 1) = 2047 by unfold wrap64; omega]
    congr 1
    rw [decide_eq_false h, Bool.false_or, ← Bool.decide_and]
    apply decide_eq_decide.2
    omega
theorem impl_Root_right.count (s : Int) (h0 : 0 ≤ s) (h1 : s ≤ 262144) : impl_count.f s = some ((s + 511) / 512) := by
  unfold impl_count.f
  have e1 : wrap64 (s + 512) = s + 512 := by unfold wrap64; omega
  have e2 : wrap64 (s + 512 - 1) = s + 511 := by unfold wrap64; omega
  rw [e1, e2, Int.tdiv_eq_ediv_of_nonneg (by omega)]
  congr 1
  unfold wrap64
  omega
set_option maxHeartbeats 8000000 in
set_option maxRecDepth 100000 in
theorem impl_Root_right.calls (a0 : List Int) (n0 : a0.length = 15) (r : Bool) (w : World) (h : impl_Root_right.f a0 = some r) :
    Calls Tryd.prog 78 #[.agg (nums .i64 a0).toArray] w fun e w' => e = .returned (.bool r) ∧ Below w.heap.size w w' := by
  have H := Aside0.mk (Option.some.inj h)
  have N_ := Aside0.mk n0
  clear n0 h
  obtain ⟨s, hs⟩ : ∃ s, s = a0.getD 0 0 := ⟨_, rfl⟩
  have HS := Aside0.mk hs
  obtain ⟨x13, hx13⟩ : ∃ x, x = a0.getD 13 0 := ⟨_, rfl⟩
  have HX13 := Aside0.mk hx13
  obtain ⟨x14, hx14⟩ : ∃ x, x = a0.getD 14 0 := ⟨_, rfl⟩
  have HX14 := Aside0.mk hx14
  clear hs hx13 hx14
  obtain ⟨xs, hxs⟩ : ∃ xs, xs = seg a0 1 14 := ⟨_, rfl⟩
  have HP := Aside0.mk (show impl_Root_pointers.f a0 = some xs by rw [hxs]; exact if_pos N_.out)
  have HXL := Aside0.mk (show xs.length = 14 by rw [hxs]; exact part_len (n := 15) N_.out (by decide))
  have HXS := Aside0.mk hxs
  clear hxs
  have HB0 : Aside0 (Below w.heap.size w w) := ⟨Below.refl _ _⟩
  obtain ⟨s0, Sz0⟩ : ∃ s0, Aside0 (w.heap.size = s0) := ⟨_, ⟨rfl⟩⟩
  have hw0 : w.heap.size ≤ s0 := Nat.le_of_eq Sz0.out
  have hw1 : s0 ≤ w.heap.size := Nat.le_of_eq Sz0.out.symm
  by_cases c1 : 0 ≤ s ∧ s ≤ 262144
  case neg =>
    have HW := Aside0.mk ((impl_Root_right.within s 0 262144).trans (by rw [decide_eq_false c1]))
    have C1 := Aside0.mk c1
    clear c1
    go_enter Tryd.func78, Tryd.ntmps78
    go_wp2_with (first | ((with_reducible refine gate_dst (N := 1) rfl ?_); refine hx_box rfl 1 rfl 31 (.tmp 0) rfl Sz0 (.agg (nums .i64 a0).toArray) (nums .i64 a0).toArray rfl rfl ?_; intro w1 s1 L1 Sz1 b1 g_; have H0 := Aside0.mk g_; have HB1 := Aside0.mk (below_then HB0.out HB0.out.size b1); clear g_ HB0 b1; have c0_ := row_cell H0.out 0 (lt_len (n := 15) N_.out (by decide)); rw [← HS.out] at c0_) | (go_at_call 76; refine (impl_within.calls s 0 262144 false _ HW.out).mono ?_; rintro e_ w_ ⟨rfl, ⟨nd, rfl⟩⟩))
    go_ret
    refine ⟨?_, pw_below_drewN HB1.out _⟩
    have e_ : rootGood a0 = false := by
      by_cases c2 : a0.getD 0 0 < 0
      · exact rootGood_low c2
      · exact rootGood_high (by have := C1.out; rw [HS.out] at this; omega)
    rw [← H.out, e_]; rfl
  have HW := Aside0.mk ((impl_Root_right.within s 0 262144).trans (by rw [decide_eq_true c1]))
  have W1 : 0 ≤ s := c1.1
  have W2 : s ≤ 262144 := c1.2
  clear c1
  obtain ⟨bb, hbb⟩ : ∃ b, b = (s + 511) / 512 := ⟨_, rfl⟩
  have HC := Aside0.mk (show impl_count.f s = some bb by rw [hbb]; exact impl_Root_right.count s W1 W2)
  have HBB := Aside0.mk hbb
  have hbb1 : 0 ≤ bb := by omega
  have hbb2 : bb ≤ 1000 := by omega
  clear hbb
  go_enter Tryd.func78, Tryd.ntmps78
  go_wp2_with (first | ((with_reducible refine gate_dst (N := 1) rfl ?_); refine hx_box rfl 1 rfl 31 (.tmp 0) rfl Sz0 (.agg (nums .i64 a0).toArray) (nums .i64 a0).toArray rfl rfl ?_; intro w1 s1 L1 Sz1 b1 g_; have H0 := Aside0.mk g_; have HB1 := Aside0.mk (below_then HB0.out HB0.out.size b1); clear g_ HB0 b1; have c0_ := row_cell H0.out 0 (lt_len (n := 15) N_.out (by decide)); rw [← HS.out] at c0_) | (go_at_call 76; refine (impl_within.calls s 0 262144 true _ HW.out).mono ?_; rintro e_ w_ ⟨rfl, ⟨nd, rfl⟩⟩) | ((with_reducible refine gate_dst (N := 12) rfl ?_); refine hx_load rfl 31 (.tmp 1) rfl s0 15 rfl Tryd.underlying31 rfl (by kernel_rfl) (blk_drewN H0.out _) (nums_size _ _ _ N_.out) ?_) | ((with_reducible refine gate_dst (N := 13) rfl ?_); refine goesL_ (some 13) rfl rfl Tryd.func80 (by kernel_rfl) rfl #[.agg (nums .i64 a0).toArray] rfl (by (try simp only [List.map_toArray, List.map_cons, List.map_nil]); first | done | rfl) ?_; refine (impl_Root_pointers.calls a0 N_.out xs _ HP.out).mono ?_; rintro e_ w3 ⟨v0_, rfl, R_, b_⟩; obtain ⟨A21, c21, rfl⟩ := Kd.R_slice R_; refine ⟨_, rfl, ?_⟩; have O := Aside0.mk R_; have HB := Aside0.mk (below_then (pw_below_drewN HB1.out _) (pw_below_drewN HB1.out _).size b_); have H3 := Aside0.mk (blk_below (blk_drewN H0.out _) b_); clear R_ b_ HB1 H0 c0_))
  (try simp only [Act.put, List.setIfInBounds_toArray, List.set_cons_succ, List.set_cons_zero])
  go_loopw [15] (fun v15 wr => ∃ j : Nat, v15 = .int .i64 (j : Int) ∧ Aside0 (j ≤ 14) ∧ Aside0 (∀ i, i < j → ptrOk ((seg a0 1 14).getD i 0) = true) ∧ Drawn0 w3 wr) (fun v15 _ => 14 - (intOf v15).toNat)
  case atStart => exact ⟨0, rfl, ⟨by omega⟩, ⟨fun i hi => absurd hi (Nat.not_lt_zero i)⟩, Drawn0.refl _⟩
  case round =>
    obtain ⟨j, rfl, hj, hall, ⟨m2, rfl⟩⟩ := hrel
    by_cases c9 : j < 14
    · have c9b0 : decide ((j : Int) < (xs.length : Int)) = true := decide_eq_true (by rw [HXL.out]; omega)
      have c9b1 : decide (j < xs.length) = true := decide_eq_true (by rw [HXL.out]; omega)
      have p112 : 0 ≤ (j : Int) := by omega
      have q112 : (j : Int) < (xs.length : Int) := by rw [HXL.out]; omega
      obtain ⟨ad112, e112, hx112⟩ := Kd.at_int (Kd.C_drewN (Kd.R_reads' O.out).2.2 m2) (j : Int) p112 q112
      cases e112
      rw [Int.toNat_natCast] at hx112
      replace p112 := eq_true p112
      replace q112 := eq_true q112
      have q113 : (j < xs.length) = True := eq_true (by rw [HXL.out]; omega)
      obtain ⟨p, hp⟩ : ∃ p, p = rd xs (j : Int) := ⟨_, rfl⟩
      rw [← hp] at hx112
      have HPV := Aside0.mk (show p = (seg a0 1 14).getD j 0 by rw [hp, HXS.out, rd, Int.toNat_natCast])
      have C9 := Aside0.mk c9
      clear hp c9
      by_cases cq : ptrOk p = true
      · have HQ := Aside0.mk ((impl_Root_right.ptr p).trans (by rw [cq]))
        have CQ := Aside0.mk (show ptrOk ((seg a0 1 14).getD j 0) = true by rw [← HPV.out]; exact cq)
        clear cq
        go_wp2_with (first | (go_at_call 87; refine (impl_isPointer.calls p 2048 true _ HQ.out).mono ?_; rintro e_ w_ ⟨rfl, ⟨nd, rfl⟩⟩))
        go_roundw
        case rel =>
          refine ⟨j + 1, by rw [show wrap64 ((j : Int) + 1) = ((j + 1 : Nat) : Int) by (have := C9.out; unfold wrap64; omega)], ⟨by have := C9.out; omega⟩, ⟨fun i hi => ?_⟩, by repeat (first | exact Drawn0.refl _ | apply Drawn0.step)⟩
          by_cases hij : i = j
          · subst hij; exact CQ.out
          · exact hall.out i (by omega)
        case measure =>
          rw [show wrap64 ((j : Int) + 1) = ((j + 1 : Nat) : Int) by (have := C9.out; unfold wrap64; omega)]
          simp only [intOf, Int.toNat_natCast]
          have := C9.out
          omega
      · have cq2 : ptrOk p = false := by simpa using cq
        have HQ := Aside0.mk ((impl_Root_right.ptr p).trans (by rw [cq2]))
        have CQ := Aside0.mk cq2
        clear cq cq2
        go_wp2_with (first | (go_at_call 87; refine (impl_isPointer.calls p 2048 false _ HQ.out).mono ?_; rintro e_ w_ ⟨rfl, ⟨nd, rfl⟩⟩))
        go_ret
        refine ⟨?_, by first | exact pw_below_drewN HB.out _ | exact pw_below_drewN (pw_below_drewN HB.out _) _⟩
        have e_ : rootGood a0 = false := rootGood_bad j (by have := C9.out; omega) (by rw [ptrFits, ← HPV.out, CQ.out]; rfl)
        rw [← H.out, e_]; rfl
    · obtain rfl : j = 14 := by have := hj.out; omega
      have c9b0 : decide ((14 : Int) < (xs.length : Int)) = false := decide_eq_false (by rw [HXL.out]; decide)
      have c9b1 : decide (14 < xs.length) = false := decide_eq_false (by rw [HXL.out]; decide)
      have hp := hall
      have c0_ := row_cell (blk_drewN H3.out m2) 0 (lt_len (n := 15) N_.out (by decide))
      rw [← HS.out] at c0_
      clear hall hj
      go_wp2_with (first | (go_at_call 95; refine (impl_count.calls s bb _ HC.out).mono ?_; rintro e_ w_ ⟨rfl, ⟨nd, rfl⟩⟩) | ((with_reducible refine gate_dst (N := 27) rfl ?_); refine hx_loadp rfl 22 (.tmp 26) rfl s0 1 12 rfl Tryd.underlying22 rfl (by kernel_rfl) (blk_drewN H3.out _) (le_len (n := 15) N_.out (by decide)) ?_))
      (try simp only [Act.put, List.setIfInBounds_toArray, List.set_cons_succ, List.set_cons_zero])
      go_loopw [28] (fun v28 wr => ∃ j : Nat, v28 = .int .i64 (j : Int) ∧ Aside0 (j ≤ 12) ∧ Aside0 (∀ i, i < j → (seg a0 1 14).getD i 0 = 0 ∨ (i : Int) < (a0.getD 0 0 + 511) / 512) ∧ Drawn0 w3 wr) (fun v28 _ => 12 - (intOf v28).toNat)
      case atStart => exact ⟨0, rfl, ⟨by omega⟩, ⟨fun i hi => absurd hi (Nat.not_lt_zero i)⟩, by repeat (first | exact Drawn0.refl _ | apply Drawn0.step)⟩
      case round =>
        clear c0_ c9b0 c9b1 c9
        obtain ⟨j, rfl, hj, hall, ⟨m3, rfl⟩⟩ := hrel
        by_cases c9 : j < 12
        · have c9b0 : decide ((j : Int) < 12) = true := decide_eq_true (by omega)
          have c9b1 : decide (j < 12) = true := decide_eq_true c9
          obtain ⟨p, hp2⟩ : ∃ p, p = (seg a0 1 12).getD j 0 := ⟨_, rfl⟩
          have HPV := Aside0.mk hp2
          have HPV2 := Aside0.mk (show p = (seg a0 1 14).getD j 0 by rw [hp2, seg_getD _ _ _ _ c9, seg_getD _ _ _ _ (by omega)])
          have C9 := Aside0.mk c9
          clear hp2 c9
          by_cases cb : bb ≤ (j : Int)
          case neg =>
            have cb_ : decide (bb ≤ (j : Int)) = false := decide_eq_false cb
            have CB := Aside0.mk cb
            clear cb
            go_wp2_with (first | ((with_reducible refine gate_dst (N := 31) rfl ?_); refine hx_index rfl 22 3 12 (.tmp 27) (.tmp 28) rfl (seg a0 1 12) j _ rfl rfl Tryd.underlying22 Tryd.underlying3 rfl (by kernel_rfl) (part_len (n := 15) N_.out (by decide)) C9.out ?_; rw [← HPV.out]))
            go_roundw
            case rel =>
              refine ⟨j + 1, by rw [show wrap64 ((j : Int) + 1) = ((j + 1 : Nat) : Int) by (have := C9.out; unfold wrap64; omega)], ⟨by have := C9.out; omega⟩, ⟨fun i hi => ?_⟩, by repeat (first | exact Drawn0.refl _ | apply Drawn0.step)⟩
              by_cases hij : i = j
              · subst hij; exact by rw [← HPV2.out]; exact .inr (by rw [← HS.out]; have := HBB.out; have := CB.out; omega)
              · exact hall.out i (by omega)
            case measure =>
              rw [show wrap64 ((j : Int) + 1) = ((j + 1 : Nat) : Int) by (have := C9.out; unfold wrap64; omega)]
              simp only [intOf, Int.toNat_natCast]
              have := C9.out
              omega
          case pos =>
            have cb_ : decide (bb ≤ (j : Int)) = true := decide_eq_true cb
            have CB := Aside0.mk cb
            clear cb
            by_cases cz : p = 0
            · have cz_ : (p != 0) = false := bne_eq_false_iff_eq.mpr cz
              have CZ := Aside0.mk cz
              clear cz
              go_wp2_with (first | ((with_reducible refine gate_dst (N := 31) rfl ?_); refine hx_index rfl 22 3 12 (.tmp 27) (.tmp 28) rfl (seg a0 1 12) j _ rfl rfl Tryd.underlying22 Tryd.underlying3 rfl (by kernel_rfl) (part_len (n := 15) N_.out (by decide)) C9.out ?_; rw [← HPV.out]))
              go_roundw
              case rel =>
                refine ⟨j + 1, by rw [show wrap64 ((j : Int) + 1) = ((j + 1 : Nat) : Int) by (have := C9.out; unfold wrap64; omega)], ⟨by have := C9.out; omega⟩, ⟨fun i hi => ?_⟩, by repeat (first | exact Drawn0.refl _ | apply Drawn0.step)⟩
                by_cases hij : i = j
                · subst hij; exact by rw [← HPV2.out]; exact .inl CZ.out
                · exact hall.out i (by omega)
              case measure =>
                rw [show wrap64 ((j : Int) + 1) = ((j + 1 : Nat) : Int) by (have := C9.out; unfold wrap64; omega)]
                simp only [intOf, Int.toNat_natCast]
                have := C9.out
                omega
            · have cz_ : (p != 0) = true := bne_iff_ne.mpr cz
              have CZ := Aside0.mk cz
              clear cz
              go_wp2_with (first | ((with_reducible refine gate_dst (N := 31) rfl ?_); refine hx_index rfl 22 3 12 (.tmp 27) (.tmp 28) rfl (seg a0 1 12) j _ rfl rfl Tryd.underlying22 Tryd.underlying3 rfl (by kernel_rfl) (part_len (n := 15) N_.out (by decide)) C9.out ?_; rw [← HPV.out]))
              go_ret
              refine ⟨?_, by first | exact pw_below_drewN HB.out _ | exact pw_below_drewN (pw_below_drewN HB.out _) _⟩
              have e_ : rootGood a0 = false := rootGood_dir j C9.out (by rw [← HPV2.out]; exact CZ.out) (by rw [← HS.out]; have := HBB.out; have := CB.out; omega)
              rw [← H.out, e_]; rfl
        · obtain rfl : j = 12 := by have := hj.out; omega
          have c13_ := row_cell (blk_drewN H3.out m3) 13 (lt_len (n := 15) N_.out (by decide))
          have c14_ := row_cell (blk_drewN H3.out m3) 14 (lt_len (n := 15) N_.out (by decide))
          rw [← HX13.out] at c13_
          rw [← HX14.out] at c14_
          by_cases d1 : 12 < bb
          · have d1_ : decide (12 < bb) = true := decide_eq_true d1
            have D1 := Aside0.mk d1
            clear d1
            by_cases d3 : 140 < bb
            · have d3_ : decide (140 < bb) = true := decide_eq_true d3
              have D3 := Aside0.mk d3
              clear d3
              go_wp2
              go_ret
              refine ⟨?_, by first | exact pw_below_drewN HB.out _ | exact pw_below_drewN (pw_below_drewN HB.out _) _⟩
              have e_ : rootGood a0 = true := rootGood_end (by rw [← HS.out]; exact W1) (by rw [← HS.out]; exact W2) hp.out hall.out (.inr (by rw [← HS.out]; have := HBB.out; have := D1.out; omega)) (.inr (by rw [← HS.out]; have := HBB.out; have := D3.out; omega))
              rw [← H.out, e_]; rfl
            · have d3_ : decide (140 < bb) = false := decide_eq_false d3
              have D3 := Aside0.mk d3
              clear d3
              by_cases d4 : x14 = 0
              · have d4_ : (x14 == 0) = true := beq_iff_eq.mpr d4
                have D4 := Aside0.mk d4
                clear d4
                go_wp2
                go_ret
                refine ⟨?_, by first | exact pw_below_drewN HB.out _ | exact pw_below_drewN (pw_below_drewN HB.out _) _⟩
                have e_ : rootGood a0 = true := rootGood_end (by rw [← HS.out]; exact W1) (by rw [← HS.out]; exact W2) hp.out hall.out (.inr (by rw [← HS.out]; have := HBB.out; have := D1.out; omega)) (.inl (by rw [← HX14.out]; exact D4.out))
                rw [← H.out, e_]; rfl
              · have d4_ : (x14 == 0) = false := beq_eq_false_iff_ne.mpr d4
                have D4 := Aside0.mk d4
                clear d4
                go_wp2
                go_ret
                refine ⟨?_, by first | exact pw_below_drewN HB.out _ | exact pw_below_drewN (pw_below_drewN HB.out _) _⟩
                have e_ : rootGood a0 = false := rootGood_13 (by rw [← HX14.out]; exact D4.out) (by rw [← HS.out]; have := HBB.out; have := D3.out; omega)
                rw [← H.out, e_]; rfl
          · have d1_ : decide (12 < bb) = false := decide_eq_false d1
            have D1 := Aside0.mk d1
            clear d1
            by_cases d2 : x13 = 0
            · have d2_ : (x13 == 0) = true := beq_iff_eq.mpr d2
              have D2 := Aside0.mk d2
              clear d2
              by_cases d3 : 140 < bb
              · have d3_ : decide (140 < bb) = true := decide_eq_true d3
                have D3 := Aside0.mk d3
                clear d3
                go_wp2
                go_ret
                refine ⟨?_, by first | exact pw_below_drewN HB.out _ | exact pw_below_drewN (pw_below_drewN HB.out _) _⟩
                have e_ : rootGood a0 = true := rootGood_end (by rw [← HS.out]; exact W1) (by rw [← HS.out]; exact W2) hp.out hall.out (.inl (by rw [← HX13.out]; exact D2.out)) (.inr (by rw [← HS.out]; have := HBB.out; have := D3.out; omega))
                rw [← H.out, e_]; rfl
              · have d3_ : decide (140 < bb) = false := decide_eq_false d3
                have D3 := Aside0.mk d3
                clear d3
                by_cases d4 : x14 = 0
                · have d4_ : (x14 == 0) = true := beq_iff_eq.mpr d4
                  have D4 := Aside0.mk d4
                  clear d4
                  go_wp2
                  go_ret
                  refine ⟨?_, by first | exact pw_below_drewN HB.out _ | exact pw_below_drewN (pw_below_drewN HB.out _) _⟩
                  have e_ : rootGood a0 = true := rootGood_end (by rw [← HS.out]; exact W1) (by rw [← HS.out]; exact W2) hp.out hall.out (.inl (by rw [← HX13.out]; exact D2.out)) (.inl (by rw [← HX14.out]; exact D4.out))
                  rw [← H.out, e_]; rfl
                · have d4_ : (x14 == 0) = false := beq_eq_false_iff_ne.mpr d4
                  have D4 := Aside0.mk d4
                  clear d4
                  go_wp2
                  go_ret
                  refine ⟨?_, by first | exact pw_below_drewN HB.out _ | exact pw_below_drewN (pw_below_drewN HB.out _) _⟩
                  have e_ : rootGood a0 = false := rootGood_13 (by rw [← HX14.out]; exact D4.out) (by rw [← HS.out]; have := HBB.out; have := D3.out; omega)
                  rw [← H.out, e_]; rfl
            · have d2_ : (x13 == 0) = false := beq_eq_false_iff_ne.mpr d2
              have D2 := Aside0.mk d2
              clear d2
              go_wp2
              go_ret
              refine ⟨?_, by first | exact pw_below_drewN HB.out _ | exact pw_below_drewN (pw_below_drewN HB.out _) _⟩
              have e_ : rootGood a0 = false := rootGood_12 (by rw [← HX13.out]; exact D2.out) (by rw [← HS.out]; have := HBB.out; have := D1.out; omega)
              rw [← H.out, e_]; rfl

/-! ### impl_tableSize: function 79 -/
def impl_tableSize.f (a0 : Int) : Option (Bool) := if a0 ≥ 256 then (if (Int.tmod a0 128) = 0 then (some (decide (a0 ≤ 128128))) else (some false)) else (some false)
set_option maxHeartbeats 8000000 in
set_option maxRecDepth 100000 in
theorem impl_tableSize.calls (a0 : Int) (r : Bool) (w : World) (h : impl_tableSize.f a0 = some r) :
    Calls Tryd.prog 79 #[.int .i64 a0] w fun e w' => e = .returned (.bool r) ∧ Drawn0 w w' := by
  have H : (if a0 ≥ 256 then (if (Int.tmod a0 128) = 0 then (some (decide (a0 ≤ 128128))) else (some false)) else (some false)) = some r := h
  clear h
  by_cases c2 : a0 ≥ 256
  · rw [if_pos c2] at H
    have c2b0 : decide (256 ≤ a0) = true := decide_eq_true c2
    clear c2
    by_cases c3 : (Int.tmod a0 128) = 0
    · rw [if_pos c3] at H
      have c3b0 : ((Int.tmod a0 128) == 0) = true := beq_iff_eq.mpr c3
      have c3b1 : ((Int.tmod a0 128) != 0) = false := bne_eq_false_iff_eq.mpr c3
      clear c3
      obtain rfl := Option.some.inj H
      go_enter Tryd.func79, Tryd.ntmps79
      go_wp2
      go_ret
      exact ⟨by first | rfl | (simp; done) | (simp [*]; done), by repeat (first | exact Drawn0.refl _ | apply Drawn0.step)⟩
    · rw [if_neg c3] at H
      have c3b0 : ((Int.tmod a0 128) == 0) = false := beq_eq_false_iff_ne.mpr c3
      have c3b1 : ((Int.tmod a0 128) != 0) = true := bne_iff_ne.mpr c3
      obtain rfl := Option.some.inj H
      go_enter Tryd.func79, Tryd.ntmps79
      go_wp2
      go_ret
      exact ⟨by first | rfl | (simp; done) | (simp [*]; done), by repeat (first | exact Drawn0.refl _ | apply Drawn0.step)⟩
  · rw [if_neg c2] at H
    have c2b0 : decide (256 ≤ a0) = false := decide_eq_false c2
    clear c2
    obtain rfl := Option.some.inj H
    go_enter Tryd.func79, Tryd.ntmps79
    go_wp2
    go_ret
    exact ⟨by first | rfl | (simp; done) | (simp [*]; done), by repeat (first | exact Drawn0.refl _ | apply Drawn0.step)⟩

open Go.Proofs.YtkghgjehjchajaaDoorW Go.Proofs.YtkghgjehjchajaaDoorW.PrintHand Go.Proofs.YtkghgjehjchajaaDoorW.PrintHx
/-! ### impl_Snap_right: function 47 -/
open Go.Proofs.YtkghgjehjchajaaDoorW.PrintLe Go.Proofs.YtkghgjehjchajaaDoorW.PrintGrow Go.Proofs.YtkghgjehjchajaaDoorW.PrintDec Go.Proofs.YtkghgjehjchajaaDoorW.PrintIno Go.Proofs.YtkghgjehjchajaaDoorW.PrintTab2 Go.Proofs.YtkghgjehjchajaaDoorW.PrintTab3 Go.Proofs.YtkghgjehjchajaaDoorW.PrintFsi Go.Proofs.YtkghgjehjchajaaDoorW.PrintFsb Go.Proofs.YtkghgjehjchajaaDoorW.PrintFsd Go.Proofs.YtkghgjehjchajaaDoorW.PrintCrc Go.Proofs.YtkghgjehjchajaaDoorW.PrintSnp
def impl_Snap_right.f (x c p q : Int) (r : List Int) : Option Bool := some (snapGood x c p q r)
set_option maxHeartbeats 8000000 in
set_option maxRecDepth 100000 in
theorem impl_Snap_right.calls (x : Int) (s : ByteArray) (p q : Int) (r : List Int) (nr : r.length = 15) (k : Nat) (c : Int) (hc : impl_CheckName.f k s = some c) (b : Bool) (w : World) (h : impl_Snap_right.f x c p q r = some b) :
    Calls Tryd.prog 47 #[.agg (snapC x s p q r).toArray] w fun e w' => e = .returned (.bool b) ∧ Below w.heap.size w w' := by
  have H := Aside0.mk (Option.some.inj h)
  clear h
  have NR := Aside0.mk nr
  have WC := Aside0.mk hc
  clear nr hc
  obtain ⟨y0, hy0⟩ : ∃ y, y = r.getD 0 0 := ⟨_, rfl⟩
  obtain ⟨b0, hb0⟩ : ∃ b, b = rng x 1 31 := ⟨_, rfl⟩
  have Wb0 := Aside0.mk (show impl_within.f x 1 31 = some b0 by rw [hb0]; exact within_i _ _ _)
  obtain ⟨b2, hb2⟩ : ∃ b, b = rng p 1 1099511627776 := ⟨_, rfl⟩
  have Wb2 := Aside0.mk (show impl_within.f p 1 1099511627776 = some b2 by rw [hb2]; exact within_i _ _ _)
  obtain ⟨b3, hb3⟩ : ∃ b, b = rng q 1 1099511627776 := ⟨_, rfl⟩
  have Wb3 := Aside0.mk (show impl_within.f q 1 1099511627776 = some b3 by rw [hb3]; exact within_i _ _ _)
  obtain ⟨b4, hb4⟩ : ∃ b, b = rootGood r := ⟨_, rfl⟩
  have Wb4 := Aside0.mk (show impl_Root_right.f r = some b4 by rw [hb4]; rfl)
  obtain ⟨b5, hb5⟩ : ∃ b, b = sizeI y0 := ⟨_, rfl⟩
  have Wb5 := Aside0.mk (show impl_tableSize.f y0 = some b5 by rw [hb5]; exact size_i _)
  obtain ⟨b1, hb1⟩ : ∃ b, b = decide (c = 0) := ⟨_, rfl⟩
  have HIN := Aside0.mk (show snapGood x c p q r = (b0 && (b1 && (b2 && (b3 && (b4 && b5))))) by rw [hb0, hb1, hb2, hb3, hb4, hb5, hy0]; rfl)
  have HY0 := Aside0.mk hy0
  have HB1_ := Aside0.mk (show (c == 0) = b1 by rw [hb1]; rfl)
  clear hb0 hb1 hb2 hb3 hb4 hb5 hy0
  have HB0 : Aside0 (Below w.heap.size w w) := ⟨Below.refl _ _⟩
  obtain ⟨s0, Sz0⟩ : ∃ s0, Aside0 (w.heap.size = s0) := ⟨_, ⟨rfl⟩⟩
  have hw0 : w.heap.size ≤ s0 := Nat.le_of_eq Sz0.out
  have hw1 : s0 ≤ w.heap.size := Nat.le_of_eq Sz0.out.symm
  go_enter Tryd.func47, Tryd.ntmps47
  go_wp2_with (first | ((with_reducible refine gate_dst (N := 1) rfl ?_); refine hx_box rfl 1 rfl 33 (.tmp 0) rfl Sz0 (.agg (snapC x s p q r).toArray) (snapC x s p q r).toArray rfl (by simp [Value.cells]) ?_; intro w1 s1 L1 Sz1 b1_ g_; have H1 := Aside0.mk g_; have HB := Aside0.mk (below_then HB0.out HB0.out.size b1_); clear g_ HB0 b1_) | ((with_reducible refine gate_dst (N := 4) rfl ?_); refine wpList_ld1 rfl 3 (.tmp 3) rfl s0 0 rfl (.int .i64 x) Tryd.underlying3 rfl H1.out rfl ?_) | ((with_reducible refine gate_dst (N := 5) rfl ?_); refine goesL_ (some 5) rfl rfl Tryd.func76 (by kernel_rfl) rfl #[.int .i64 x, .int .i64 1, .int .i64 31] rfl (by (try simp only [List.map_toArray, List.map_cons, List.map_nil]); first | done | rfl) ?_; refine (impl_within.calls x 1 31 b0 _ Wb0.out).mono ?_; rintro e_ w_ ⟨rfl, d_⟩; have b_ := kept_drawn d_; refine ⟨_, rfl, ?_⟩; have Hn := Aside0.mk (blk_below H1.out b_); have HBn := Aside0.mk (below_then HB.out HB.out.size b_); clear b_ d_ H1 HB; have H1 := Hn; have HB := HBn; clear Hn HBn; cases b0) | ((with_reducible refine gate_dst (N := 8) rfl ?_); refine Go.Proofs.YtkghgjehjchajaaDoorW.PrintTab2.ungd (by rfl) ?_; refine wpList_ld1 rfl 9 (.tmp 7) rfl s0 1 rfl (.string s) Tryd.underlying9 rfl H1.out rfl ?_) | ((with_reducible refine gate_dst (N := 9) rfl ?_); refine Go.Proofs.YtkghgjehjchajaaDoorW.PrintTab2.ungd (by rfl) ?_; refine goesL_ (some 9) rfl rfl Tryd.func77 (by kernel_rfl) rfl #[.string s] rfl (by (try simp only [List.map_toArray, List.map_cons, List.map_nil]); first | done | rfl) ?_; refine (impl_CheckName.calls k s c _ WC.out).mono ?_; rintro e_ w_ ⟨rfl, d_⟩; have b_ := d_; refine ⟨_, rfl, ?_⟩; have Hn := Aside0.mk (blk_below H1.out b_); have HBn := Aside0.mk (below_then HB.out HB.out.size b_); clear b_ d_ H1 HB; have H1 := Hn; have HB := HBn; clear Hn HBn) | ((with_reducible refine gate_dst (N := 10) rfl ?_); refine Go.Proofs.YtkghgjehjchajaaDoorW.PrintTab2.ungd (by rfl) ?_; refine hx_eqi rfl 3 3 (.tmp 9) _ rfl Tryd.underlying3 c 0 rfl rfl b1 HB1_ ?_; cases b1) | ((with_reducible refine gate_dst (N := 14) rfl ?_); refine Go.Proofs.YtkghgjehjchajaaDoorW.PrintTab2.ungd (by rfl) ?_; refine wpList_ld1 rfl 3 (.tmp 13) rfl s0 2 rfl (.int .i64 p) Tryd.underlying3 rfl H1.out rfl ?_) | ((with_reducible refine gate_dst (N := 15) rfl ?_); refine Go.Proofs.YtkghgjehjchajaaDoorW.PrintTab2.ungd (by rfl) ?_; refine goesL_ (some 15) rfl rfl Tryd.func76 (by kernel_rfl) rfl #[.int .i64 p, .int .i64 1, .int .i64 1099511627776] rfl (by (try simp only [List.map_toArray, List.map_cons, List.map_nil]); first | done | rfl) ?_; refine (impl_within.calls p 1 1099511627776 b2 _ Wb2.out).mono ?_; rintro e_ w_ ⟨rfl, d_⟩; have b_ := kept_drawn d_; refine ⟨_, rfl, ?_⟩; have Hn := Aside0.mk (blk_below H1.out b_); have HBn := Aside0.mk (below_then HB.out HB.out.size b_); clear b_ d_ H1 HB; have H1 := Hn; have HB := HBn; clear Hn HBn; cases b2) | ((with_reducible refine gate_dst (N := 19) rfl ?_); refine Go.Proofs.YtkghgjehjchajaaDoorW.PrintTab2.ungd (by rfl) ?_; refine wpList_ld1 rfl 3 (.tmp 18) rfl s0 3 rfl (.int .i64 q) Tryd.underlying3 rfl H1.out rfl ?_) | ((with_reducible refine gate_dst (N := 20) rfl ?_); refine Go.Proofs.YtkghgjehjchajaaDoorW.PrintTab2.ungd (by rfl) ?_; refine goesL_ (some 20) rfl rfl Tryd.func76 (by kernel_rfl) rfl #[.int .i64 q, .int .i64 1, .int .i64 1099511627776] rfl (by (try simp only [List.map_toArray, List.map_cons, List.map_nil]); first | done | rfl) ?_; refine (impl_within.calls q 1 1099511627776 b3 _ Wb3.out).mono ?_; rintro e_ w_ ⟨rfl, d_⟩; have b_ := kept_drawn d_; refine ⟨_, rfl, ?_⟩; have Hn := Aside0.mk (blk_below H1.out b_); have HBn := Aside0.mk (below_then HB.out HB.out.size b_); clear b_ d_ H1 HB; have H1 := Hn; have HB := HBn; clear Hn HBn; cases b3) | ((with_reducible refine gate_dst (N := 24) rfl ?_); refine Go.Proofs.YtkghgjehjchajaaDoorW.PrintTab2.ungd (by rfl) ?_; refine wpList_ld rfl 31 (.tmp 23) rfl s0 4 15 rfl (nums .i64 r).toArray Tryd.underlying31 rfl (by kernel_rfl) H1.out (by rw [snapC_size NR.out]; decide) (snapC_root NR.out) ?_) | ((with_reducible refine gate_dst (N := 25) rfl ?_); refine Go.Proofs.YtkghgjehjchajaaDoorW.PrintTab2.ungd (by rfl) ?_; refine goesL_ (some 25) rfl rfl Tryd.func78 (by kernel_rfl) rfl #[.agg (nums .i64 r).toArray] rfl (by (try simp only [List.map_toArray, List.map_cons, List.map_nil]); first | done | rfl) ?_; refine (impl_Root_right.calls r NR.out b4 _ Wb4.out).mono ?_; rintro e_ w_ ⟨rfl, d_⟩; have b_ := d_; refine ⟨_, rfl, ?_⟩; have Hn := Aside0.mk (blk_below H1.out b_); have HBn := Aside0.mk (below_then HB.out HB.out.size b_); clear b_ d_ H1 HB; have H1 := Hn; have HB := HBn; clear Hn HBn; cases b4) | ((with_reducible refine gate_dst (N := 30) rfl ?_); refine Go.Proofs.YtkghgjehjchajaaDoorW.PrintTab2.ungd (by rfl) ?_; refine wpList_ld1 rfl 3 (.tmp 29) rfl s0 4 rfl (.int .i64 y0) Tryd.underlying3 rfl H1.out (by rw [HY0.out]; exact snapC_at4 NR.out) ?_) | ((with_reducible refine gate_dst (N := 31) rfl ?_); refine Go.Proofs.YtkghgjehjchajaaDoorW.PrintTab2.ungd (by rfl) ?_; refine goesL_ (some 31) rfl rfl Tryd.func79 (by kernel_rfl) rfl #[.int .i64 y0] rfl (by (try simp only [List.map_toArray, List.map_cons, List.map_nil]); first | done | rfl) ?_; refine (impl_tableSize.calls y0 b5 _ Wb5.out).mono ?_; rintro e_ w_ ⟨rfl, d_⟩; have b_ := kept_drawn d_; refine ⟨_, rfl, ?_⟩; have Hn := Aside0.mk (blk_below H1.out b_); have HBn := Aside0.mk (below_then HB.out HB.out.size b_); clear b_ d_ H1 HB; have H1 := Hn; have HB := HBn; clear Hn HBn; cases b5))
  all_goals (go_ret; exact ⟨by rw [← H.out, HIN.out]; rfl, HB.out⟩)

/-! ### impl_put_int: function 48 -/
def impl_put_int.l0 : Nat → List Int → Int → Int → Int → Int → Option (List Int)
  | 0, _, _, _, _, _ => none
  | k + 1, x0, x1, x3, x9, x10 => if x10 < x9 then (if 0 ≤ (wrap64 (8 * x10)) then (if 0 ≤ (wrap64 (x1 + x10)) then (if (wrap64 (x1 + x10)) < (x0.length : Int) then (impl_put_int.l0 k (x0.set ((wrap64 (x1 + x10)) : Int).toNat ((shr .u64 (IntKind.u64.wrap (x3)) (wrap64 (8 * x10))) % 256)) x1 x3 x9 (wrap64 (x10 + 1))) else (none)) else (none)) else (none)) else (some x0)
def impl_put_int.f (k : Nat) (l0 : List Int) (a1 : Int) (a2 : Int) (a3 : Int) : Option (List Int) := impl_put_int.l0 k l0 a1 a3 a2 0
theorem impl_put_int.mono_l : ∀ k, (∀ y0 y1 y2 y3 y4, LeO (impl_put_int.l0 k y0 y1 y2 y3 y4) (impl_put_int.l0 (k + 1) y0 y1 y2 y3 y4))
  | 0 => fun _ _ _ _ _ r h => by simp [impl_put_int.l0] at h
  | k + 1 => by
    have ih0 := impl_put_int.mono_l k
    · intro y0 y1 y2 y3 y4
      unfold impl_put_int.l0
      repeat' first
      | (with_reducible exact ih0 _ _ _ _ _)
      | (with_reducible exact LeO.refl _)
      | (with_reducible exact LeO.none _)
      | (with_reducible refine LeO.ite ?_ ?_)
      | (with_reducible refine LeO.bind ?_ (fun _ => ?_))
      | exact ih0 _ _ _ _ _
      | exact LeO.none _
      | refine LeO.ite ?_ ?_
      | refine LeO.bind ?_ (fun _ => ?_)
theorem impl_put_int.mono : ∀ a0 a1 a2 a3 k, LeO (impl_put_int.f k a0 a1 a2 a3) (impl_put_int.f (k + 1) a0 a1 a2 a3) := by
  intro a0 a1 a2 a3 k
  have ih0 := impl_put_int.mono_l k
  unfold impl_put_int.f
  repeat' first
      | (with_reducible exact ih0 _ _ _ _ _)
      | (with_reducible exact LeO.refl _)
      | (with_reducible exact LeO.none _)
      | (with_reducible refine LeO.ite ?_ ?_)
      | (with_reducible refine LeO.bind ?_ (fun _ => ?_))
      | exact ih0 _ _ _ _ _
      | exact LeO.none _
      | refine LeO.ite ?_ ?_
      | refine LeO.bind ?_ (fun _ => ?_)
set_option maxHeartbeats 8000000 in
set_option maxRecDepth 100000 in
theorem impl_put_int.calls (k : Nat) (P0_ : Nat → Prop) (u9000_ : Value) (l0 : List Int) (a1 : Int) (a2 : Int) (a3 : Int) (r : List Int) (w0 w : World) (hB : Below w0.heap.size w0 w) (ho0 : Kd.R (Kd.int .u8) 5 w w0.heap.size P0_ u9000_ l0) (h : impl_put_int.f k l0 a1 a2 a3 = some r) :
    Calls Tryd.prog 48 #[u9000_, .int .i64 a1, .int .i64 a2, .int .i64 a3] w fun e w' => e = .returned (.tuple #[]) ∧ Kd.R (Kd.int .u8) 5 w' w0.heap.size (fun k_ => (P0_ k_ ∨ w.heap.size ≤ k_)) u9000_ r ∧ Below w0.heap.size w0 w' ∧ Kept w w' (fun k_ => P0_ k_) := by
  have HO0 := Aside0.mk (show Kd.R (Kd.int .u8) 5 w w0.heap.size (fun k_ => (P0_ k_ ∨ w.heap.size ≤ k_)) u9000_ l0 from Kd.R_mono ho0 (fun k_ hk => (.inl hk)))
  have HK := Aside0.mk (Kept.refl w (fun k_ => P0_ k_))
  have HW0 := Aside0.mk hB.size
  have HB := Aside0.mk hB
  clear hB
  have H : (impl_put_int.l0 k l0 a1 a3 a2 0) = some r := h
  clear h
  have H' := Aside0.mk H
  clear H
  go_enter Tryd.func48, Tryd.ntmps48
  go_wp2
  go_loopg [10] k (fun kq v10 w' => ∃ (x0_1 : List Int) (x10_1 : Int), v10 = .int .i64 x10_1 ∧ Aside0 (impl_put_int.l0 kq x0_1 a1 a3 a2 x10_1 = some r) ∧ Aside0 (kq ≤ k) ∧ Aside0 (Kd.R (Kd.int .u8) 5 w' w0.heap.size (fun k_ => (P0_ k_ ∨ w.heap.size ≤ k_)) u9000_ x0_1) ∧ Aside0 (Kept w w' (fun k_ => P0_ k_)) ∧ Aside0 (Below w0.heap.size w0 w'))
  case atStart => exact ⟨(l0), (0), (by first | rfl | (simp; done) | (simp [*]; done)), H', ⟨Nat.le_refl _⟩, ⟨by (with_reducible repeat (first | apply Kd.R_alloc | apply Kd.R_drewN | apply Kd.R_drew)); exact HO0.out⟩, ⟨by repeat (first | (with_reducible first | exact HK.out | apply Kept.alloc | apply Kept.drewN | apply Kept.drew) | exact HK.out)⟩, ⟨by repeat (first | (with_reducible first | exact HB.out | apply below_alloc | apply pw_below_drewN | apply below_drew1) | exact HB.out)⟩⟩
  case round =>
    clear H'
    try clear p2
    try clear c4
    obtain ⟨x0_1, x10_1, rfl, HA, HK1, HO_0, HK, HB⟩ := hrel
    cases gk with
    | zero => exact absurd HA.out (by simp [impl_put_int.l0])
    | succ k1 =>
      have H := HA.out
      clear HA
      simp only [impl_put_int.l0] at H
      by_cases c5 : x10_1 < a2
      · rw [if_pos c5] at H
        have c5b0 : decide (x10_1 < a2) = true := decide_eq_true c5
        clear c5
        obtain ⟨ji6, hji6⟩ : ∃ j_ : Int, (wrap64 (8 * x10_1)) = j_ := ⟨_, rfl⟩
        replace H : (if 0 ≤ (ji6) then (if 0 ≤ (wrap64 (a1 + x10_1)) then (if (wrap64 (a1 + x10_1)) < (x0_1.length : Int) then (impl_put_int.l0 k1 (x0_1.set ((wrap64 (a1 + x10_1)) : Int).toNat ((shr .u64 (IntKind.u64.wrap (a3)) (ji6)) % 256)) a1 a3 a2 (wrap64 (x10_1 + 1))) else (none)) else (none)) else (none)) = some r := by first | (rw [hji6] at H; exact H) | (simp only [hji6] at H ⊢; exact H)
        have hji6w : (IntKind.i64.wrap (8 * x10_1)) = ji6 := (i64_w _).trans hji6
        by_cases c7 : 0 ≤ (ji6)
        · rw [if_pos c7] at H
          have c7b0 := eq_true c7
          have c7b1 : decide (0 ≤ (ji6)) = true := decide_eq_true c7
          clear c7
          obtain ⟨ji8, hji8⟩ : ∃ j_ : Int, (shr .u64 (IntKind.u64.wrap (a3)) (ji6)) = j_ := ⟨_, rfl⟩
          replace H : (if 0 ≤ (wrap64 (a1 + x10_1)) then (if (wrap64 (a1 + x10_1)) < (x0_1.length : Int) then (impl_put_int.l0 k1 (x0_1.set ((wrap64 (a1 + x10_1)) : Int).toNat ((ji8) % 256)) a1 a3 a2 (wrap64 (x10_1 + 1))) else (none)) else (none)) = some r := by first | (rw [hji8] at H; exact H) | (simp only [hji8] at H ⊢; exact H)
          have hji8_ : ((IntKind.u64.wrap (a3)) / 2 ^ min (ji6).toNat 64) = ji8 := hji8
          have hji8z : (ji6) ≤ 64 → ((IntKind.u64.wrap (a3)) / 2 ^ (ji6).toNat) = ji8 := shr_small hji8
          obtain ⟨ji9, hji9⟩ : ∃ j_ : Int, (wrap64 (a1 + x10_1)) = j_ := ⟨_, rfl⟩
          replace H : (if 0 ≤ (ji9) then (if (ji9) < (x0_1.length : Int) then (impl_put_int.l0 k1 (x0_1.set ((ji9) : Int).toNat ((ji8) % 256)) a1 a3 a2 (wrap64 (x10_1 + 1))) else (none)) else (none)) = some r := by first | (rw [hji9] at H; exact H) | (simp only [hji9] at H ⊢; exact H)
          have hji9w : (IntKind.i64.wrap (a1 + x10_1)) = ji9 := (i64_w _).trans hji9
          by_cases c10 : 0 ≤ (ji9)
          · rw [if_pos c10] at H
            have c10b0 : decide (0 ≤ (ji9)) = true := decide_eq_true c10
            clear c10
            by_cases c11 : (ji9) < (x0_1.length : Int)
            · rw [if_pos c11] at H
              have c11b0 : decide ((ji9) < (x0_1.length : Int)) = true := decide_eq_true c11
              clear c11
              obtain ⟨y144, hy144⟩ : ∃ y_ : List Int, y_ = (x0_1.set ((ji9) : Int).toNat ((ji8) % 256)) := ⟨_, rfl⟩
              replace H : (impl_put_int.l0 k1 y144 a1 a3 a2 (wrap64 (x10_1 + 1))) = some r := by first | (rw [hy144]; with_reducible exact H) | (have H2_ := (Option.bind_some _ _).symm.trans H; rw [hy144]; with_reducible exact H2_) | (have H2_ := (Option.bind_some _ _).symm.trans H; with_reducible exact H2_) | with_reducible exact H | (rw [hy144]; exact H) | exact H
              have Ny144 := Aside0.mk hy144
              clear hy144
              have H' := Aside0.mk H
              clear H
              have p12 : 0 ≤ ((ji9) : Int) := of_decide_eq_true (by first | (with_reducible assumption) | assumption)
              have q12 : ((ji9) : Int) < ((x0_1.length : Int) : Int) := of_decide_eq_true (by first | (with_reducible assumption) | assumption)
              obtain ⟨go12, co12, eo12, gb12, gl12, cl12, HG12⟩ := Kd.R_form HO_0.out (by omega)
              (first | cases eo12 | (injection eo12 with ea_ en_ ec_; (first | subst ea_ | (injection ea_ with ea_; subst ea_)); subst ec_; clear en_))
              have GB12 := Aside0.mk gb12
              have GG12 := Aside0.mk HG12
              clear gb12 gl12 HG12
              have HMgo12 := Aside0.mk (show (P0_ go12 ∨ w.heap.size ≤ go12) from (HO_0.out.1 _ rfl))
              obtain ⟨hx12_0, hf12_0⟩ := Kd.R_celln 0 HO_0.out ((ji9) : Int) p12 q12
              replace p12 := eq_true p12
              replace q12 := eq_true q12
              have HP13 := Kd.R_putg HO_0.out ((ji9) : Int) ((ji8) % 256)
              go_wp2_with (first | ((with_reducible refine gate_store (t := 5) (p := 23) rfl ?_); refine store_event (t := 5) (p := 23) (v := ?vo_w14) (w1 := (wr.setCell ⟨go12, ((ji9) : Int).toNat, none⟩ (.int .u8 ((ji8) % 256)))) ?hg ?ho ?hn ?hr ?_; (case ho => rfl); (case hg => rfl); (case hn => rfl); (case hr => first | (go_simp; done) | (go_simp; rfl)); intro w14 hw; have hg : wr.grownBy w14 (some go12) := (by rw [hw]; exact HP13.2); have hp_ : Kd.R (Kd.int .u8) 5 w14 w0.heap.size (fun k_ => (P0_ k_ ∨ w.heap.size ≤ k_)) (.slice (some ⟨go12, 0, none⟩) x0_1.length co12) y144 := (by rw [hw, Ny144.out]; exact HP13.1); clear HP13; have n0_ := Aside0.mk (hp_); have n1_ := Aside0.mk ((by rw [hw]; exact below_set (HB.out) GB12.out : Below w0.heap.size w0 w14)); have n2_ := Aside0.mk (Kept.of_grown (S := (fun k_ => P0_ k_)) hg (by repeat (first | (with_reducible first | exact HK.out | apply Kept.alloc | apply Kept.drewN | apply Kept.drew) | exact HK.out)) (fun k_ e_ => (HO_0.out.1 k_ e_))); clear HO_0; clear HB; clear HK; have HO_0 := n0_; have HB := n1_; have HK := n2_; clear n0_ n1_ n2_; clear hg hw hp_))
              go_roundg k1
              case measure => have := HK1.out; omega
              case rel => exact ⟨(y144), (wrap64 (x10_1 + 1)), (by first | rfl | (simp; done) | (simp [*]; done)), H', ⟨by have := HK1.out; omega⟩, ⟨by (with_reducible repeat (first | apply Kd.R_alloc | apply Kd.R_drewN | apply Kd.R_drew)); exact HO_0.out⟩, ⟨by repeat (first | (with_reducible first | exact HK.out | apply Kept.alloc | apply Kept.drewN | apply Kept.drew) | exact HK.out)⟩, ⟨by repeat (first | (with_reducible first | exact HB.out | apply below_alloc | apply pw_below_drewN | apply below_drew1) | exact HB.out)⟩⟩
            · rw [if_neg c11] at H
              exact absurd H (by simp)
          · rw [if_neg c10] at H
            exact absurd H (by simp)
        · rw [if_neg c7] at H
          exact absurd H (by simp)
      · rw [if_neg c5] at H
        have c5b0 : decide (x10_1 < a2) = false := decide_eq_false c5
        clear c5
        obtain rfl := Option.some.inj H
        go_wp2
        first | go_end0 | ((try simp only [Exit.inBlock, Exit.then]); refine bodyPost_ret (results_none rfl _ _ _) rfl ?_)
        exact ⟨by first | rfl | (simp [errW_none, errW_some] <;> rfl) | (simp [*, errW_none, errW_some] <;> rfl), by (with_reducible repeat (first | apply Kd.R_alloc | apply Kd.R_drewN | apply Kd.R_drew)); exact HO_0.out, by repeat (first | (with_reducible first | exact HB.out | apply below_alloc | apply pw_below_drewN | apply below_drew1) | exact HB.out), by repeat (first | (with_reducible first | exact HK.out | apply Kept.alloc | apply Kept.drewN | apply Kept.drew) | exact HK.out)⟩

open Go.Proofs.YtkghgjehjchajaaDoorW Go.Proofs.YtkghgjehjchajaaDoorW.PrintHand Go.Proofs.YtkghgjehjchajaaDoorW.PrintHx
/-! ### impl_Root_put: function 49 -/
open Go.Proofs.YtkghgjehjchajaaDoorW.PrintLe
theorem put_l0 (v : Int) (at_ size : Nat) (h0 : 0 ≤ v) (h1 : v ≤ 9223372036854775807) (h8 : size ≤ 8) : ∀ (d i k : Nat) (x0 : List Int), i + d = size → d < k → at_ + size ≤ x0.length → x0.length ≤ 1048576 → impl_put_int.l0 k x0 (at_ : Int) v (size : Int) (i : Int) = some (x0.take (at_ + i) ++ leB (v / 256 ^ i) d ++ x0.drop (at_ + size))
  | 0, i, k, x0, e1, e2, e3, e4 => by
    obtain ⟨k, rfl⟩ := sucK e2
    simp only [impl_put_int.l0]
    rw [if_neg (by omega), show at_ + i = at_ + size by omega]
    simp [leB]
  | d + 1, i, k, x0, e1, e2, e3, e4 => by
    obtain ⟨k, rfl⟩ := sucK e2
    simp only [impl_put_int.l0]
    have hw : wrap64 ((at_ : Int) + (i : Int)) = ((at_ + i : Nat) : Int) := by unfold wrap64; omega
    have h8i : wrap64 (8 * (i : Int)) = ((8 * i : Nat) : Int) := by unfold wrap64; omega
    rw [hw, h8i, if_pos (by omega), if_pos (by omega), if_pos (by omega), if_pos (by omega), w64n (by omega), put_l0 v at_ size h0 h1 h8 d (i + 1) k _ (by omega) (by omega) (by simpa using e3) (by simpa using e4)]
    have hv : (shr .u64 (IntKind.u64.wrap v) ((8 * i : Nat) : Int)) % 256 = v / 256 ^ i % 256 := by
      rw [wraps_u64 _ h0 (by omega)]
      unfold shr
      rw [Int.toNat_natCast, Nat.min_eq_left (by simp [IntKind.bits]; omega), Int.pow_mul, show (2 : Int) ^ 8 = 256 by decide]
    rw [hv, Int.toNat_natCast]
    congr 1
    have hlt : at_ + i < x0.length := by omega
    rw [show at_ + (i + 1) = (at_ + i) + 1 by omega, List.take_succ_eq_append_getElem (by simpa using hlt), List.getElem_set_self, List.take_set_of_le (Nat.le_refl _), List.drop_set_of_lt (by omega), leB, Int.ediv_ediv_of_nonneg (by have := p256 i; omega), ← Int.pow_succ]
    simp
/-- put: a number's bytes at a place -/
theorem put_f (x0 : List Int) (at_ size : Nat) (v : Int) (h0 : 0 ≤ v) (h1 : v ≤ 9223372036854775807) (h8 : size ≤ 8) (hat : at_ + size ≤ x0.length) (hx : x0.length ≤ 1048576) (k : Nat) (hk : 8 < k) : impl_put_int.f k x0 (at_ : Int) (size : Int) v = some (x0.take at_ ++ leB v size ++ x0.drop (at_ + size)) := by
  unfold impl_put_int.f
  have h := put_l0 v at_ size h0 h1 h8 size 0 k x0 (by omega) (by omega) hat hx
  rw [Int.pow_zero, Int.ediv_one] at h
  exact h

def impl_Root_put.f (a0 l1 : List Int) : Option (List Int) := if rootGood a0 = true ∧ 64 ≤ l1.length ∧ l1.length ≤ 1048576 then some (rootBytes a0 ++ l1.drop 64) else none
theorem impl_Root_put.step (s : Int) (xs l1 : List Int) (j : Nat) (hx : xs.length = 14) (hj : j < 14) (hl : 64 ≤ l1.length) (p : Int) (hp : p = xs.getD j 0) :
    let ls := leB s 8 ++ flat4 (xs.take j) ++ l1.drop (8 + 4 * j)
    ls.take (8 + 4 * j) ++ leB p 4 ++ ls.drop (8 + 4 * j + 4) = leB s 8 ++ flat4 (xs.take (j + 1)) ++ l1.drop (8 + 4 * (j + 1)) := by
  intro ls
  have h1 : (leB s 8 ++ flat4 (xs.take j)).length = 8 + 4 * j := by rw [List.length_append, leB_length, flat4_length, List.length_take, hx, Nat.min_eq_left (by omega)]
  have e1 : ls.take (8 + 4 * j) = leB s 8 ++ flat4 (xs.take j) := by rw [← h1]; exact List.take_left
  have e2 : ls.drop (8 + 4 * j + 4) = l1.drop (8 + 4 * (j + 1)) := by
    show (leB s 8 ++ flat4 (xs.take j) ++ l1.drop (8 + 4 * j)).drop (8 + 4 * j + 4) = _
    rw [List.drop_append, h1, List.drop_eq_nil_of_le (by rw [h1]; omega), List.nil_append, List.drop_drop]
    congr 1
    omega
  rw [e1, e2, flat4_take xs j (by omega), hp, List.append_assoc (leB s 8)]
theorem impl_Root_put.len (s : Int) (xs l1 : List Int) (j : Nat) (hx : xs.length = 14) (hj : j < 14) (hl : 64 ≤ l1.length) : (leB s 8 ++ flat4 (xs.take j) ++ l1.drop (8 + 4 * j)).length = l1.length := by
  rw [List.length_append, List.length_append, leB_length, flat4_length, List.length_take, hx, Nat.min_eq_left (by omega), List.length_drop]
  omega
theorem impl_Root_put.at_ (j : Nat) (hj : j < 14) : wrap64 (8 + wrap64 (4 * (j : Int))) = ((8 + 4 * j : Nat) : Int) := by
  unfold wrap64
  omega
theorem below_then2 {B : Nat} {w w1 w2 : World} (h : Below B w w1) (hB : B ≤ w1.heap.size) (k : Below w1.heap.size w1 w2) : Below B w w2 := below_then h hB k
set_option maxHeartbeats 8000000 in
set_option maxRecDepth 100000 in
theorem impl_Root_put.calls (a0 : List Int) (n0 : a0.length = 15) (P0_ : Nat → Prop) (u9000_ : Value) (l1 : List Int) (r : List Int) (w0 w : World) (hB : Below w0.heap.size w0 w) (ho1 : Kd.R (Kd.int .u8) 5 w w0.heap.size P0_ u9000_ l1) (h : impl_Root_put.f a0 l1 = some r) :
    Calls Tryd.prog 49 #[.agg (nums .i64 a0).toArray, u9000_] w fun e w' => e = .returned (.tuple #[]) ∧ Kd.R (Kd.int .u8) 5 w' w0.heap.size P0_ u9000_ r ∧ Below w0.heap.size w0 w' ∧ Kept w w' (fun k_ => P0_ k_) := by
  unfold impl_Root_put.f at h
  by_cases hgood : rootGood a0 = true ∧ 64 ≤ l1.length ∧ l1.length ≤ 1048576
  case neg => rw [if_neg hgood] at h; cases h
  rw [if_pos hgood] at h
  obtain rfl := Option.some.inj h
  have N_ := Aside0.mk n0
  have HG := Aside0.mk hgood.1
  have HL := Aside0.mk hgood.2
  have hle := hB.size
  have HB0 := Aside0.mk hB
  obtain ⟨s0, Sz0⟩ : ∃ s0, Aside0 (w.heap.size = s0) := ⟨_, ⟨rfl⟩⟩
  have hs0 : s0 = w.heap.size := Sz0.out.symm
  have O0 := Aside0.mk (show Kd.R (Kd.int .u8) 5 w w0.heap.size (fun k => P0_ k ∧ k < s0) u9000_ l1 from Kd.R_mono (Kd.R_bound ho1) (fun k hk => ⟨hk.1, by rw [hs0]; exact hk.2.2.1⟩))
  have hlt0 : w0.heap.size ≤ s0 := by rw [hs0]; exact hle
  clear hs0
  have hu31 := Tryd.underlying31
  clear n0 h hgood ho1 hB
  obtain ⟨s, hs⟩ : ∃ s, s = a0.getD 0 0 := ⟨_, rfl⟩
  have hs1 : 0 ≤ s ∧ s ≤ 262144 := by rw [hs]; exact rootGood_size HG.out
  have HS := Aside0.mk hs
  have HP8 := Aside0.mk (show impl_put_int.f 20 l1 0 8 s = some (l1.take 0 ++ leB s 8 ++ l1.drop (0 + 8)) from put_f l1 0 8 s hs1.1 (by omega) (by decide) (by have := HL.out; omega) (by have := HL.out; omega) 20 (by decide))
  clear hs hs1
  obtain ⟨xs, hxs⟩ : ∃ xs, xs = seg a0 1 14 := ⟨_, rfl⟩
  have HP := Aside0.mk (show impl_Root_pointers.f a0 = some xs by rw [hxs]; exact if_pos N_.out)
  have HXL := Aside0.mk (show xs.length = 14 by rw [hxs]; exact part_len (n := 15) N_.out (by decide))
  have HXS := Aside0.mk hxs
  have HXR := Aside0.mk (show ∀ j, j < 14 → 0 ≤ xs.getD j 0 ∧ xs.getD j 0 < 2048 by rw [hxs]; exact fun j hj => rootGood_ptr HG.out j hj)
  clear hxs
  have hle0 : w0.heap.size ≤ s0 := hlt0
  go_enter Tryd.func49, Tryd.ntmps49
  go_wp2_with (first | ((with_reducible refine gate_dst (N := 2) rfl ?_); refine hx_box rfl 2 rfl 31 (.tmp 0) rfl Sz0 (.agg (nums .i64 a0).toArray) (nums .i64 a0).toArray rfl rfl ?_; intro w1 s1 L1 Sz1 b1 g_; have H1 := Aside0.mk g_; have HB1 := Aside0.mk (below_then2 HB0.out hle b1); have KP1 := Aside0.mk (Kept.of_below b1 P0_); have O1 := Aside0.mk (Kd.R_below O0.out b1); clear g_ b1 HB0 O0) | ((with_reducible refine gate_dst (N := 8) rfl ?_); refine hx_loadf rfl 3 (.tmp 7) rfl s0 0 rfl Tryd.underlying3 rfl H1.out (lt_len (n := 15) N_.out (by decide)) ?_; rw [← HS.out]) | ((with_reducible refine gate_dst (N := 9) rfl ?_); refine goesL_ (some 9) rfl rfl Tryd.func48 (by kernel_rfl) rfl #[u9000_, .int .i64 0, .int .i64 8, .int .i64 s] rfl (by (try simp only [List.map_toArray, List.map_cons, List.map_nil]); first | done | rfl) ?_; refine (impl_put_int.calls 20 (fun k => P0_ k ∧ k < s0) u9000_ l1 0 8 s _ w0 w1 HB1.out O1.out HP8.out).mono ?_; rintro e_ w2 ⟨rfl, R_, hb_, kp_⟩; refine ⟨_, rfl, ?_⟩; have O2 := own_same R_ O1.out rfl; have HB2 := Aside0.mk hb_; have KP2 := Aside0.mk (KP1.out.then_ kp_ (fun k hk => .inl hk.1)); have H2 := Aside0.mk (blk_kept H1.out kp_ (fun hk => by have := hk.2; omega)); obtain ⟨s2, L2, Sz2⟩ := size_letter Sz1 kp_; clear R_ hb_ kp_ O1 HB1 KP1 H1) | ((with_reducible refine gate_dst (N := 10) rfl ?_); refine hx_load rfl 31 (.tmp 2) rfl s0 15 rfl Tryd.underlying31 rfl (by kernel_rfl) H2.out (nums_size _ _ _ N_.out) ?_) | ((with_reducible refine gate_dst (N := 11) rfl ?_); refine goesL_ (some 11) rfl rfl Tryd.func80 (by kernel_rfl) rfl #[.agg (nums .i64 a0).toArray] rfl (by (try simp only [List.map_toArray, List.map_cons, List.map_nil]); first | done | rfl) ?_; refine (impl_Root_pointers.calls a0 N_.out xs _ HP.out).mono ?_; rintro e_ w3 ⟨v0_, rfl, R_, b_⟩; obtain ⟨A11, c11, rfl⟩ := Kd.R_slice R_; refine ⟨_, rfl, ?_⟩; obtain ⟨s3, L3, Sz3⟩ := size_letter Sz2 (kept_below b_); have OP := own_btw (B := w0.heap.size) R_ Sz2.out Sz3 (by have := Sz2.out; omega); have O3 := Aside0.mk (Kd.R_below O2.out b_); have HB3 := Aside0.mk (below_then2 HB2.out (by have := Sz2.out; omega) b_); have KP3 := Aside0.mk (KP2.out.below b_); clear R_ b_ O2 HB2 KP2 H2))
  (try simp only [Act.put, List.setIfInBounds_toArray, List.set_cons_succ, List.set_cons_zero])
  go_loopw [13] (fun v13 wr => ∃ j : Nat, v13 = .int .i64 (j : Int) ∧ Aside0 (j ≤ 14) ∧ Aside0 (Kd.R (Kd.int .u8) 5 wr w0.heap.size (fun k => P0_ k ∧ k < s0) u9000_ (leB s 8 ++ flat4 (xs.take j) ++ l1.drop (8 + 4 * j))) ∧ Aside0 (Kd.R (Kd.int .i64) 3 wr w0.heap.size (Btw s2 s3) (.slice A11 xs.length c11) xs) ∧ Aside0 (Below w0.heap.size w0 wr) ∧ Aside0 (Kept w wr P0_)) (fun v13 _ => 14 - (intOf v13).toNat)
  case atStart => exact ⟨0, rfl, ⟨by omega⟩, ⟨by have := O3.out; simpa [flat4] using this⟩, OP, HB3, KP3⟩
  case round =>
    clear O3 OP HB3 KP3
    obtain ⟨j, rfl, hj, OO0, OP, HB, KP⟩ := hrel
    by_cases c9 : j < 14
    · have c9b0 : decide ((j : Int) < (xs.length : Int)) = true := decide_eq_true (by rw [HXL.out]; omega)
      have c9b1 : decide (j < xs.length) = true := decide_eq_true (by rw [HXL.out]; omega)
      have p112 : 0 ≤ (j : Int) := by omega
      have q112 : (j : Int) < (xs.length : Int) := by rw [HXL.out]; omega
      obtain ⟨ad112, e112, hx112⟩ := Kd.at_int (Kd.R_reads' OP.out).2.2 (j : Int) p112 q112
      cases e112
      rw [Int.toNat_natCast] at hx112
      replace p112 := eq_true p112
      replace q112 := eq_true q112
      have q113 : (j < xs.length) = True := eq_true (by rw [HXL.out]; omega)
      obtain ⟨p, hp⟩ : ∃ p, p = rd xs (j : Int) := ⟨_, rfl⟩
      rw [← hp] at hx112
      have HPV := Aside0.mk (show p = xs.getD j 0 by rw [hp, rd, Int.toNat_natCast])
      have hpr : 0 ≤ p ∧ p < 2048 := by rw [HPV.out]; exact HXR.out j c9
      obtain ⟨ls, hls⟩ : ∃ ls, ls = leB s 8 ++ flat4 (xs.take j) ++ l1.drop (8 + 4 * j) := ⟨_, rfl⟩
      have hll : ls.length = l1.length := by rw [hls]; exact impl_Root_put.len s xs l1 j HXL.out c9 HL.out.1
      obtain ⟨at_, hat⟩ : ∃ a, a = wrap64 (8 + wrap64 (4 * (j : Int))) := ⟨_, rfl⟩
      have hat2 : at_ = ((8 + 4 * j : Nat) : Int) := by rw [hat]; exact impl_Root_put.at_ j c9
      have HP4 := Aside0.mk (show impl_put_int.f 20 ls at_ 4 p = some (ls.take (8 + 4 * j) ++ leB p 4 ++ ls.drop (8 + 4 * j + 4)) by rw [hat2]; exact put_f ls (8 + 4 * j) 4 p hpr.1 (Int.le_of_lt (Int.lt_trans hpr.2 (by decide))) (by decide) (by rw [hll]; have h1_ := HL.out.1; omega) (by rw [hll]; exact HL.out.2) 20 (by decide))
      have HAT := Aside0.mk hat
      have C9 := Aside0.mk c9
      have oo := OO0.out
      rw [← hls] at oo
      have OO := Aside0.mk oo
      have HLS := Aside0.mk hls
      clear hp c9 hpr hls oo OO0 hat hat2 hll
      go_wp2_with (first | ((with_reducible refine gate_dst (N := 23) rfl ?_); refine goesL_ (some 23) rfl rfl Tryd.func48 (by kernel_rfl) rfl #[u9000_, .int .i64 at_, .int .i64 4, .int .i64 p] rfl (by (try simp only [List.map_toArray, List.map_cons, List.map_nil]); first | done | rfl | (rw [HAT.out]; rfl)) ?_; refine (impl_put_int.calls 20 (fun k => P0_ k ∧ k < s0) u9000_ ls at_ 4 p _ w0 _ HB.out OO.out HP4.out).mono ?_; rintro e_ w4 ⟨rfl, R_, hb_, kp_⟩; refine ⟨_, rfl, ?_⟩; have OO4 := own_same R_ OO.out rfl; have HB4 := Aside0.mk hb_; have KP4 := Aside0.mk (KP.out.then_ kp_ (fun k hk => .inl hk.1)); have OP4 := Aside0.mk (Kd.R_kept OP.out kp_ (fun k hk hk2 => by have h1_ := hk.1; have h2_ := hk2.2; omega)); clear R_ hb_ kp_ OO HB KP OP))
      go_roundw
      case rel =>
        refine ⟨j + 1, by rw [show wrap64 ((j : Int) + 1) = ((j + 1 : Nat) : Int) by (have := C9.out; unfold wrap64; omega)], ⟨by have := C9.out; omega⟩, ⟨?_⟩, OP4, HB4, KP4⟩
        have ho := OO4.out
        have e_ := impl_Root_put.step s xs l1 j HXL.out C9.out HL.out.1 p HPV.out
        simp only [] at e_
        rw [← HLS.out] at e_
        rw [e_] at ho
        exact ho
      case measure =>
        rw [show wrap64 ((j : Int) + 1) = ((j + 1 : Nat) : Int) by (have := C9.out; unfold wrap64; omega)]
        simp only [intOf, Int.toNat_natCast]
        have := C9.out
        omega
    · obtain rfl : j = 14 := by have := hj.out; omega
      have c9b0 : decide ((14 : Int) < (xs.length : Int)) = false := decide_eq_false (by rw [HXL.out]; decide)
      have c9b1 : decide (14 < xs.length) = false := decide_eq_false (by rw [HXL.out]; decide)
      go_wp2
      have ho := OO0.out
      rw [List.take_of_length_le (by rw [HXL.out]; exact Nat.le_refl _), HXS.out, HS.out] at ho
      refine Go.Great.bodyPost_end0 rfl rfl ⟨rfl, Kd.R_mono ho (fun _ hk => hk.1), HB.out, KP.out⟩

/-! ### impl_put_uint32: function 81 -/
def impl_put_uint32.l0 : Nat → List Int → Int → Int → Int → Int → Option (List Int)
  | 0, _, _, _, _, _ => none
  | k + 1, x0, x1, x3, x9, x10 => if x10 < x9 then (if 0 ≤ (wrap64 (8 * x10)) then (if 0 ≤ (wrap64 (x1 + x10)) then (if (wrap64 (x1 + x10)) < (x0.length : Int) then (impl_put_uint32.l0 k (x0.set ((wrap64 (x1 + x10)) : Int).toNat ((shr .u64 (IntKind.u64.wrap (x3)) (wrap64 (8 * x10))) % 256)) x1 x3 x9 (wrap64 (x10 + 1))) else (none)) else (none)) else (none)) else (some x0)
def impl_put_uint32.f (k : Nat) (l0 : List Int) (a1 : Int) (a2 : Int) (a3 : Int) : Option (List Int) := impl_put_uint32.l0 k l0 a1 a3 a2 0
theorem impl_put_uint32.mono_l : ∀ k, (∀ y0 y1 y2 y3 y4, LeO (impl_put_uint32.l0 k y0 y1 y2 y3 y4) (impl_put_uint32.l0 (k + 1) y0 y1 y2 y3 y4))
  | 0 => fun _ _ _ _ _ r h => by simp [impl_put_uint32.l0] at h
  | k + 1 => by
    have ih0 := impl_put_uint32.mono_l k
    · intro y0 y1 y2 y3 y4
      unfold impl_put_uint32.l0
      repeat' first
      | (with_reducible exact ih0 _ _ _ _ _)
      | (with_reducible exact LeO.refl _)
      | (with_reducible exact LeO.none _)
      | (with_reducible refine LeO.ite ?_ ?_)
      | (with_reducible refine LeO.bind ?_ (fun _ => ?_))
      | exact ih0 _ _ _ _ _
      | exact LeO.none _
      | refine LeO.ite ?_ ?_
      | refine LeO.bind ?_ (fun _ => ?_)
theorem impl_put_uint32.mono : ∀ a0 a1 a2 a3 k, LeO (impl_put_uint32.f k a0 a1 a2 a3) (impl_put_uint32.f (k + 1) a0 a1 a2 a3) := by
  intro a0 a1 a2 a3 k
  have ih0 := impl_put_uint32.mono_l k
  unfold impl_put_uint32.f
  repeat' first
      | (with_reducible exact ih0 _ _ _ _ _)
      | (with_reducible exact LeO.refl _)
      | (with_reducible exact LeO.none _)
      | (with_reducible refine LeO.ite ?_ ?_)
      | (with_reducible refine LeO.bind ?_ (fun _ => ?_))
      | exact ih0 _ _ _ _ _
      | exact LeO.none _
      | refine LeO.ite ?_ ?_
      | refine LeO.bind ?_ (fun _ => ?_)
set_option maxHeartbeats 8000000 in
set_option maxRecDepth 100000 in
theorem impl_put_uint32.calls (k : Nat) (P0_ : Nat → Prop) (u9000_ : Value) (l0 : List Int) (a1 : Int) (a2 : Int) (a3 : Int) (r : List Int) (w0 w : World) (hB : Below w0.heap.size w0 w) (ho0 : Kd.R (Kd.int .u8) 5 w w0.heap.size P0_ u9000_ l0) (h : impl_put_uint32.f k l0 a1 a2 a3 = some r) :
    Calls Tryd.prog 81 #[u9000_, .int .i64 a1, .int .i64 a2, .int .u32 a3] w fun e w' => e = .returned (.tuple #[]) ∧ Kd.R (Kd.int .u8) 5 w' w0.heap.size (fun k_ => (P0_ k_ ∨ w.heap.size ≤ k_)) u9000_ r ∧ Below w0.heap.size w0 w' ∧ Kept w w' (fun k_ => P0_ k_) := by
  have HO0 := Aside0.mk (show Kd.R (Kd.int .u8) 5 w w0.heap.size (fun k_ => (P0_ k_ ∨ w.heap.size ≤ k_)) u9000_ l0 from Kd.R_mono ho0 (fun k_ hk => (.inl hk)))
  have HK := Aside0.mk (Kept.refl w (fun k_ => P0_ k_))
  have HW0 := Aside0.mk hB.size
  have HB := Aside0.mk hB
  clear hB
  have H : (impl_put_uint32.l0 k l0 a1 a3 a2 0) = some r := h
  clear h
  have H' := Aside0.mk H
  clear H
  go_enter Tryd.func81, Tryd.ntmps81
  go_wp2
  go_loopg [10] k (fun kq v10 w' => ∃ (x0_1 : List Int) (x10_1 : Int), v10 = .int .i64 x10_1 ∧ Aside0 (impl_put_uint32.l0 kq x0_1 a1 a3 a2 x10_1 = some r) ∧ Aside0 (kq ≤ k) ∧ Aside0 (Kd.R (Kd.int .u8) 5 w' w0.heap.size (fun k_ => (P0_ k_ ∨ w.heap.size ≤ k_)) u9000_ x0_1) ∧ Aside0 (Kept w w' (fun k_ => P0_ k_)) ∧ Aside0 (Below w0.heap.size w0 w'))
  case atStart => exact ⟨(l0), (0), (by first | rfl | (simp; done) | (simp [*]; done)), H', ⟨Nat.le_refl _⟩, ⟨by (with_reducible repeat (first | apply Kd.R_alloc | apply Kd.R_drewN | apply Kd.R_drew)); exact HO0.out⟩, ⟨by repeat (first | (with_reducible first | exact HK.out | apply Kept.alloc | apply Kept.drewN | apply Kept.drew) | exact HK.out)⟩, ⟨by repeat (first | (with_reducible first | exact HB.out | apply below_alloc | apply pw_below_drewN | apply below_drew1) | exact HB.out)⟩⟩
  case round =>
    clear H'
    try clear p2
    obtain ⟨x0_1, x10_1, rfl, HA, HK1, HO_0, HK, HB⟩ := hrel
    cases gk with
    | zero => exact absurd HA.out (by simp [impl_put_uint32.l0])
    | succ k1 =>
      have H := HA.out
      clear HA
      simp only [impl_put_uint32.l0] at H
      by_cases c5 : x10_1 < a2
      · rw [if_pos c5] at H
        have c5b0 : decide (x10_1 < a2) = true := decide_eq_true c5
        clear c5
        obtain ⟨ji6, hji6⟩ : ∃ j_ : Int, (wrap64 (8 * x10_1)) = j_ := ⟨_, rfl⟩
        replace H : (if 0 ≤ (ji6) then (if 0 ≤ (wrap64 (a1 + x10_1)) then (if (wrap64 (a1 + x10_1)) < (x0_1.length : Int) then (impl_put_uint32.l0 k1 (x0_1.set ((wrap64 (a1 + x10_1)) : Int).toNat ((shr .u64 (IntKind.u64.wrap (a3)) (ji6)) % 256)) a1 a3 a2 (wrap64 (x10_1 + 1))) else (none)) else (none)) else (none)) = some r := by first | (rw [hji6] at H; exact H) | (simp only [hji6] at H ⊢; exact H)
        have hji6w : (IntKind.i64.wrap (8 * x10_1)) = ji6 := (i64_w _).trans hji6
        by_cases c7 : 0 ≤ (ji6)
        · rw [if_pos c7] at H
          have c7b0 := eq_true c7
          have c7b1 : decide (0 ≤ (ji6)) = true := decide_eq_true c7
          clear c7
          obtain ⟨ji8, hji8⟩ : ∃ j_ : Int, (shr .u64 (IntKind.u64.wrap (a3)) (ji6)) = j_ := ⟨_, rfl⟩
          replace H : (if 0 ≤ (wrap64 (a1 + x10_1)) then (if (wrap64 (a1 + x10_1)) < (x0_1.length : Int) then (impl_put_uint32.l0 k1 (x0_1.set ((wrap64 (a1 + x10_1)) : Int).toNat ((ji8) % 256)) a1 a3 a2 (wrap64 (x10_1 + 1))) else (none)) else (none)) = some r := by first | (rw [hji8] at H; exact H) | (simp only [hji8] at H ⊢; exact H)
          have hji8_ : ((IntKind.u64.wrap (a3)) / 2 ^ min (ji6).toNat 64) = ji8 := hji8
          have hji8z : (ji6) ≤ 64 → ((IntKind.u64.wrap (a3)) / 2 ^ (ji6).toNat) = ji8 := shr_small hji8
          obtain ⟨ji9, hji9⟩ : ∃ j_ : Int, (wrap64 (a1 + x10_1)) = j_ := ⟨_, rfl⟩
          replace H : (if 0 ≤ (ji9) then (if (ji9) < (x0_1.length : Int) then (impl_put_uint32.l0 k1 (x0_1.set ((ji9) : Int).toNat ((ji8) % 256)) a1 a3 a2 (wrap64 (x10_1 + 1))) else (none)) else (none)) = some r := by first | (rw [hji9] at H; exact H) | (simp only [hji9] at H ⊢; exact H)
          have hji9w : (IntKind.i64.wrap (a1 + x10_1)) = ji9 := (i64_w _).trans hji9
          by_cases c10 : 0 ≤ (ji9)
          · rw [if_pos c10] at H
            have c10b0 : decide (0 ≤ (ji9)) = true := decide_eq_true c10
            clear c10
            by_cases c11 : (ji9) < (x0_1.length : Int)
            · rw [if_pos c11] at H
              have c11b0 : decide ((ji9) < (x0_1.length : Int)) = true := decide_eq_true c11
              clear c11
              obtain ⟨y145, hy145⟩ : ∃ y_ : List Int, y_ = (x0_1.set ((ji9) : Int).toNat ((ji8) % 256)) := ⟨_, rfl⟩
              replace H : (impl_put_uint32.l0 k1 y145 a1 a3 a2 (wrap64 (x10_1 + 1))) = some r := by first | (rw [hy145]; with_reducible exact H) | (have H2_ := (Option.bind_some _ _).symm.trans H; rw [hy145]; with_reducible exact H2_) | (have H2_ := (Option.bind_some _ _).symm.trans H; with_reducible exact H2_) | with_reducible exact H | (rw [hy145]; exact H) | exact H
              have Ny145 := Aside0.mk hy145
              clear hy145
              have H' := Aside0.mk H
              clear H
              have p12 : 0 ≤ ((ji9) : Int) := of_decide_eq_true (by first | (with_reducible assumption) | assumption)
              have q12 : ((ji9) : Int) < ((x0_1.length : Int) : Int) := of_decide_eq_true (by first | (with_reducible assumption) | assumption)
              obtain ⟨go12, co12, eo12, gb12, gl12, cl12, HG12⟩ := Kd.R_form HO_0.out (by omega)
              (first | cases eo12 | (injection eo12 with ea_ en_ ec_; (first | subst ea_ | (injection ea_ with ea_; subst ea_)); subst ec_; clear en_))
              have GB12 := Aside0.mk gb12
              have GG12 := Aside0.mk HG12
              clear gb12 gl12 HG12
              have HMgo12 := Aside0.mk (show (P0_ go12 ∨ w.heap.size ≤ go12) from (HO_0.out.1 _ rfl))
              obtain ⟨hx12_0, hf12_0⟩ := Kd.R_celln 0 HO_0.out ((ji9) : Int) p12 q12
              replace p12 := eq_true p12
              replace q12 := eq_true q12
              have HP13 := Kd.R_putg HO_0.out ((ji9) : Int) ((ji8) % 256)
              go_wp2_with (first | ((with_reducible refine gate_store (t := 5) (p := 23) rfl ?_); refine store_event (t := 5) (p := 23) (v := ?vo_w14) (w1 := (wr.setCell ⟨go12, ((ji9) : Int).toNat, none⟩ (.int .u8 ((ji8) % 256)))) ?hg ?ho ?hn ?hr ?_; (case ho => rfl); (case hg => rfl); (case hn => rfl); (case hr => first | (go_simp; done) | (go_simp; rfl)); intro w14 hw; have hg : wr.grownBy w14 (some go12) := (by rw [hw]; exact HP13.2); have hp_ : Kd.R (Kd.int .u8) 5 w14 w0.heap.size (fun k_ => (P0_ k_ ∨ w.heap.size ≤ k_)) (.slice (some ⟨go12, 0, none⟩) x0_1.length co12) y145 := (by rw [hw, Ny145.out]; exact HP13.1); clear HP13; have n0_ := Aside0.mk (hp_); have n1_ := Aside0.mk ((by rw [hw]; exact below_set (HB.out) GB12.out : Below w0.heap.size w0 w14)); have n2_ := Aside0.mk (Kept.of_grown (S := (fun k_ => P0_ k_)) hg (by repeat (first | (with_reducible first | exact HK.out | apply Kept.alloc | apply Kept.drewN | apply Kept.drew) | exact HK.out)) (fun k_ e_ => (HO_0.out.1 k_ e_))); clear HO_0; clear HB; clear HK; have HO_0 := n0_; have HB := n1_; have HK := n2_; clear n0_ n1_ n2_; clear hg hw hp_))
              go_roundg k1
              case measure => have := HK1.out; omega
              case rel => exact ⟨(y145), (wrap64 (x10_1 + 1)), (by first | rfl | (simp; done) | (simp [*]; done)), H', ⟨by have := HK1.out; omega⟩, ⟨by (with_reducible repeat (first | apply Kd.R_alloc | apply Kd.R_drewN | apply Kd.R_drew)); exact HO_0.out⟩, ⟨by repeat (first | (with_reducible first | exact HK.out | apply Kept.alloc | apply Kept.drewN | apply Kept.drew) | exact HK.out)⟩, ⟨by repeat (first | (with_reducible first | exact HB.out | apply below_alloc | apply pw_below_drewN | apply below_drew1) | exact HB.out)⟩⟩
            · rw [if_neg c11] at H
              exact absurd H (by simp)
          · rw [if_neg c10] at H
            exact absurd H (by simp)
        · rw [if_neg c7] at H
          exact absurd H (by simp)
      · rw [if_neg c5] at H
        have c5b0 : decide (x10_1 < a2) = false := decide_eq_false c5
        clear c5
        obtain rfl := Option.some.inj H
        go_wp2
        first | go_end0 | ((try simp only [Exit.inBlock, Exit.then]); refine bodyPost_ret (results_none rfl _ _ _) rfl ?_)
        exact ⟨by first | rfl | (simp [errW_none, errW_some] <;> rfl) | (simp [*, errW_none, errW_some] <;> rfl), by (with_reducible repeat (first | apply Kd.R_alloc | apply Kd.R_drewN | apply Kd.R_drew)); exact HO_0.out, by repeat (first | (with_reducible first | exact HB.out | apply below_alloc | apply pw_below_drewN | apply below_drew1) | exact HB.out), by repeat (first | (with_reducible first | exact HK.out | apply Kept.alloc | apply Kept.drewN | apply Kept.drew) | exact HK.out)⟩

/-! ### impl_Crc32: function 82 -/
mutual
def impl_Crc32.l0 : Nat → Int → List Int → Int → Int → Option (Int)
  | 0, _, _, _, _ => none
  | k + 1, x3, x6, x7, x8 => if x8 < x7 then (if 0 ≤ x8 then (if x8 < (x6.length : Int) then (impl_Crc32.l1 k (Go.bits .xor .u32 x3 ((rd x6 x8) % 4294967296)) x6 x7 x8 0) else (none)) else (none)) else (some (Go.bits .xor .u32 4294967295 x3))
def impl_Crc32.l1 : Nat → Int → List Int → Int → Int → Int → Option (Int)
  | 0, _, _, _, _, _ => none
  | k + 1, x3, x6, x7, x8, x16 => if x16 < 8 then (impl_Crc32.l1 k (Go.bits .xor .u32 (x3 / 2) (Go.bits .and .u32 3988292384 ((-(Go.bits .and .u32 x3 1)) % 4294967296))) x6 x7 x8 (wrap64 (x16 + 1))) else (impl_Crc32.l0 k x3 x6 x7 (wrap64 (x8 + 1)))
end
def impl_Crc32.f (k : Nat) (l0 : List Int) : Option (Int) := impl_Crc32.l0 k 4294967295 l0 (l0.length : Int) 0
theorem impl_Crc32.mono_l : ∀ k, (∀ y0 y1 y2 y3, LeO (impl_Crc32.l0 k y0 y1 y2 y3) (impl_Crc32.l0 (k + 1) y0 y1 y2 y3)) ∧ (∀ y0 y1 y2 y3 y4, LeO (impl_Crc32.l1 k y0 y1 y2 y3 y4) (impl_Crc32.l1 (k + 1) y0 y1 y2 y3 y4))
  | 0 => ⟨fun _ _ _ _ r h => by simp [impl_Crc32.l0] at h, fun _ _ _ _ _ r h => by simp [impl_Crc32.l1] at h⟩
  | k + 1 => by
    obtain ⟨ih0, ih1⟩ := impl_Crc32.mono_l k
    refine ⟨?_, ?_⟩
    · intro y0 y1 y2 y3
      unfold impl_Crc32.l0
      repeat' first
      | (with_reducible exact ih0 _ _ _ _)
      | (with_reducible exact ih1 _ _ _ _ _)
      | (with_reducible exact LeO.refl _)
      | (with_reducible exact LeO.none _)
      | (with_reducible refine LeO.ite ?_ ?_)
      | (with_reducible refine LeO.bind ?_ (fun _ => ?_))
      | exact ih0 _ _ _ _
      | exact ih1 _ _ _ _ _
      | exact LeO.none _
      | refine LeO.ite ?_ ?_
      | refine LeO.bind ?_ (fun _ => ?_)
    · intro y0 y1 y2 y3 y4
      unfold impl_Crc32.l1
      repeat' first
      | (with_reducible exact ih0 _ _ _ _)
      | (with_reducible exact ih1 _ _ _ _ _)
      | (with_reducible exact LeO.refl _)
      | (with_reducible exact LeO.none _)
      | (with_reducible refine LeO.ite ?_ ?_)
      | (with_reducible refine LeO.bind ?_ (fun _ => ?_))
      | exact ih0 _ _ _ _
      | exact ih1 _ _ _ _ _
      | exact LeO.none _
      | refine LeO.ite ?_ ?_
      | refine LeO.bind ?_ (fun _ => ?_)
theorem impl_Crc32.mono : ∀ a0 k, LeO (impl_Crc32.f k a0) (impl_Crc32.f (k + 1) a0) := by
  intro a0 k
  obtain ⟨ih0, ih1⟩ := impl_Crc32.mono_l k
  unfold impl_Crc32.f
  repeat' first
      | (with_reducible exact ih0 _ _ _ _)
      | (with_reducible exact ih1 _ _ _ _ _)
      | (with_reducible exact LeO.refl _)
      | (with_reducible exact LeO.none _)
      | (with_reducible refine LeO.ite ?_ ?_)
      | (with_reducible refine LeO.bind ?_ (fun _ => ?_))
      | exact ih0 _ _ _ _
      | exact ih1 _ _ _ _ _
      | exact LeO.none _
      | refine LeO.ite ?_ ?_
      | refine LeO.bind ?_ (fun _ => ?_)
set_option maxHeartbeats 8000000 in
set_option maxRecDepth 100000 in
theorem impl_Crc32.calls (k : Nat) (A0 : Option Addr) (c0 : Nat) (l0 : List Int) (r : Int) (w : World) (hr0 : Kd.C (Kd.int .u8) w A0 l0.length l0) (hc0 : l0.length ≤ c0) (h : impl_Crc32.f k l0 = some r) :
    Calls Tryd.prog 82 #[.slice A0 l0.length c0] w fun e w' => e = .returned (.int .u32 r) ∧ Drawn0 w w' := by
  have HR0 := Aside0.mk hr0
  have HC0 := Aside0.mk hc0
  clear hr0 hc0
  have H : (impl_Crc32.l0 k 4294967295 l0 (l0.length : Int) 0) = some r := h
  clear h
  have H' := Aside0.mk H
  clear H
  go_enter Tryd.func82, Tryd.ntmps82
  go_wp2
  go_loopg [3, 8] k (fun kq v3 v8 w' => ∃ (x3_1 : Int) (x8_1 : Int), v3 = .int .u32 x3_1 ∧ v8 = .int .i64 x8_1 ∧ Aside0 (impl_Crc32.l0 kq x3_1 l0 (l0.length : Int) x8_1 = some r) ∧ Aside0 (kq ≤ k) ∧ Drawn0 w w')
  case atStart => exact ⟨(4294967295), (0), (by first | rfl | (simp; done) | (simp [*]; done)), (by first | rfl | (simp; done) | (simp [*]; done)), H', ⟨Nat.le_refl _⟩, by repeat (first | exact Drawn0.refl _ | apply Drawn0.step)⟩
  case round =>
    clear H'
    obtain ⟨x3_1, x8_1, rfl, rfl, HA, HK1, ⟨m1, rfl⟩⟩ := hrel
    cases gk with
    | zero => exact absurd HA.out (by simp [impl_Crc32.l0])
    | succ k1 =>
      have H := HA.out
      clear HA
      simp only [impl_Crc32.l0] at H
      by_cases c2 : x8_1 < (l0.length : Int)
      · rw [if_pos c2] at H
        have c2b0 : decide (x8_1 < (l0.length : Int)) = true := decide_eq_true c2
        clear c2
        by_cases c3 : 0 ≤ x8_1
        · rw [if_pos c3] at H
          have c3b0 : decide (0 ≤ x8_1) = true := decide_eq_true c3
          clear c3
          by_cases c4 : x8_1 < (l0.length : Int)
          · rw [if_pos c4] at H
            have c4b0 : decide (x8_1 < (l0.length : Int)) = true := decide_eq_true c4
            clear c4
            have H' := Aside0.mk H
            clear H
            have p146 : 0 ≤ (x8_1 : Int) := of_decide_eq_true (by first | (with_reducible assumption) | assumption)
            have q146 : x8_1 < (l0.length : Int) := of_decide_eq_true (by first | (with_reducible assumption) | assumption)
            obtain ⟨ad146, e146, hx146_0⟩ := Kd.at_int HR0.out x8_1 p146 q146
            cases e146
            replace p146 := eq_true p146
            replace q146 := eq_true q146
            go_wp2
            go_loopg [3, 16] k1 (fun kq v3 v16 w' => ∃ (x3_2 : Int) (x16_2 : Int), v3 = .int .u32 x3_2 ∧ v16 = .int .i64 x16_2 ∧ Aside0 (impl_Crc32.l1 kq x3_2 l0 (l0.length : Int) x8_1 x16_2 = some r) ∧ Aside0 (kq ≤ k1) ∧ Drawn0 w w')
            case atStart => exact ⟨(Go.bits .xor .u32 x3_1 ((rd l0 x8_1) % 4294967296)), (0), (by first | rfl | (simp; done) | (simp [*]; done)), (by first | rfl | (simp; done) | (simp [*]; done)), H', ⟨Nat.le_refl _⟩, by repeat (first | exact Drawn0.refl _ | apply Drawn0.step)⟩
            case round =>
              clear H'
              try clear p1
              try clear q1
              try clear hx1
              try clear c2
              try clear c2b0
              try clear p2
              try clear c3
              try clear c3b0
              try clear c4
              try clear c4b0
              try clear hx146_0
              try clear p146
              try clear q146
              obtain ⟨x3_2, x16_2, rfl, rfl, HA, HK2, ⟨m2, rfl⟩⟩ := hrel
              cases gk with
              | zero => exact absurd HA.out (by simp [impl_Crc32.l1])
              | succ k2 =>
                have H := HA.out
                clear HA
                simp only [impl_Crc32.l1] at H
                by_cases c5 : x16_2 < 8
                · rw [if_pos c5] at H
                  have c5b0 : decide (x16_2 < 8) = true := decide_eq_true c5
                  clear c5
                  have H' := Aside0.mk H
                  clear H
                  go_wp2
                  go_roundg k2
                  case measure => have := HK1.out; have := HK2.out; omega
                  case rel => exact ⟨(Go.bits .xor .u32 (x3_2 / 2) (Go.bits .and .u32 3988292384 ((-(Go.bits .and .u32 x3_2 1)) % 4294967296))), (wrap64 (x16_2 + 1)), (by first | rfl | (simp; done) | (simp [*]; done)), (by first | rfl | (simp; done) | (simp [*]; done)), H', ⟨by have := HK1.out; have := HK2.out; omega⟩, by repeat (first | exact Drawn0.refl _ | apply Drawn0.step)⟩
                · rw [if_neg c5] at H
                  have c5b0 : decide (x16_2 < 8) = false := decide_eq_false c5
                  clear c5
                  have H' := Aside0.mk H
                  clear H
                  go_wp2
                  go_roundg k2
                  case measure => have := HK1.out; have := HK2.out; omega
                  case rel => exact ⟨(x3_2), (wrap64 (x8_1 + 1)), (by first | rfl | (simp; done) | (simp [*]; done)), (by first | rfl | (simp; done) | (simp [*]; done)), H', ⟨by have := HK1.out; have := HK2.out; omega⟩, by repeat (first | exact Drawn0.refl _ | apply Drawn0.step)⟩
          · rw [if_neg c4] at H
            exact absurd H (by simp)
        · rw [if_neg c3] at H
          exact absurd H (by simp)
      · rw [if_neg c2] at H
        have c2b0 : decide (x8_1 < (l0.length : Int)) = false := decide_eq_false c2
        clear c2
        obtain rfl := Option.some.inj H
        go_wp2
        go_ret
        exact ⟨by first | rfl | (simp; done) | (simp [*]; done), by repeat (first | exact Drawn0.refl _ | apply Drawn0.step)⟩

/-! ### impl_sealed: function 50 -/
def impl_sealed.f (k : Nat) (l0 : List Int) : Option (List Int) := if 508 ≤ (l0.length : Int) then ((impl_Crc32.f k (l0.take 508)).bind fun t151 => ((impl_put_uint32.f k l0 508 4 t151).bind fun t152 => (some t152))) else (none)
theorem impl_sealed.mono : ∀ a0 k, LeO (impl_sealed.f k a0) (impl_sealed.f (k + 1) a0) := by
  intro a0 k
  unfold impl_sealed.f
  repeat' first
      | (with_reducible exact impl_Crc32.mono _ _)
      | (with_reducible exact impl_put_uint32.mono _ _ _ _ _)
      | (with_reducible exact LeO.refl _)
      | (with_reducible exact LeO.none _)
      | (with_reducible refine LeO.ite ?_ ?_)
      | (with_reducible refine LeO.bind ?_ (fun _ => ?_))
      | exact impl_Crc32.mono _ _
      | exact impl_put_uint32.mono _ _ _ _ _
      | exact LeO.none _
      | refine LeO.ite ?_ ?_
      | refine LeO.bind ?_ (fun _ => ?_)
set_option maxHeartbeats 8000000 in
set_option maxRecDepth 100000 in
theorem impl_sealed.calls (k : Nat) (P0_ : Nat → Prop) (u9000_ : Value) (l0 : List Int) (r : List Int) (w0 w : World) (hB : Below w0.heap.size w0 w) (ho0 : Kd.R (Kd.int .u8) 5 w w0.heap.size P0_ u9000_ l0) (h : impl_sealed.f k l0 = some r) :
    Calls Tryd.prog 50 #[u9000_] w fun e w' => ∃ v0_ : Value, e = .returned (v0_) ∧ Kd.R (Kd.int .u8) 5 w' w0.heap.size (fun k_ => (P0_ k_ ∨ w.heap.size ≤ k_)) v0_ r ∧ Below w0.heap.size w0 w' ∧ Kept w w' (fun k_ => P0_ k_) := by
  have HO0 := Aside0.mk (show Kd.R (Kd.int .u8) 5 w w0.heap.size (fun k_ => (P0_ k_ ∨ w.heap.size ≤ k_)) u9000_ l0 from Kd.R_mono ho0 (fun k_ hk => (.inl hk)))
  have HK := Aside0.mk (Kept.refl w (fun k_ => P0_ k_))
  have HW0 := Aside0.mk hB.size
  have HB := Aside0.mk hB
  clear hB
  have H : (if 508 ≤ (l0.length : Int) then ((impl_Crc32.f k (l0.take 508)).bind fun t151 => ((impl_put_uint32.f k l0 508 4 t151).bind fun t152 => (some t152))) else (none)) = some r := h
  clear h
  by_cases c2 : 508 ≤ (l0.length : Int)
  · rw [if_pos c2] at H
    have c2b0 := eq_true c2
    have c2b1 : decide (508 ≤ (l0.length : Int)) = true := decide_eq_true c2
    clear c2
    obtain ⟨y147, hy147⟩ : ∃ y_ : List Int, y_ = (l0.take 508) := ⟨_, rfl⟩
    replace H : ((impl_Crc32.f k y147).bind fun t151 => ((impl_put_uint32.f k l0 508 4 t151).bind fun t152 => (some t152))) = some r := by first | (rw [hy147]; with_reducible exact H) | (have H2_ := (Option.bind_some _ _).symm.trans H; rw [hy147]; with_reducible exact H2_) | (have H2_ := (Option.bind_some _ _).symm.trans H; with_reducible exact H2_) | with_reducible exact H | (rw [hy147]; exact H) | exact H
    have Ny147 := Aside0.mk hy147
    clear hy147
    replace H := Option.bind_eq_some_iff.mp H
    obtain ⟨t151, A30, H⟩ := H
    replace H : ((impl_put_uint32.f k l0 508 4 t151).bind fun t152 => (some t152)) = some r := H
    have A3 := Aside0.mk A30
    clear A30
    replace H := Option.bind_eq_some_iff.mp H
    obtain ⟨t152, A40, H⟩ := H
    replace H : (some t152) = some r := H
    have A4 := Aside0.mk A40
    clear A40
    obtain rfl := Option.some.inj H
    obtain ⟨Ao6, co6, eo6⟩ := Kd.R_slice HO0.out
    subst eo6
    have q5 : (508 : Int) ≤ ((l0.length : Int) : Int) := of_decide_eq_true (by first | (with_reducible assumption) | assumption)
    obtain ⟨i05, hi05, _, hsz5, _⟩ := info_parts info5
    have hroom5 : l0.length ≤ co6 := (Kd.R_reads' HO0.out).2.1
    have hC5 : Kd.C (Kd.int .u8) _ Ao6 l0.length l0 := (Kd.R_reads' HO0.out).2.2
    have hcut5 := cut_to (P := Tryd.prog) 28 5 .i64 Tryd.underlying28 hi05 Ao6 l0.length co6 508 (by omega) q5 hroom5
    have hr5 := Kd.C_take (m := 508) hC5 (by omega)
    have hy5 : y147.length = (508 : Int).toNat := (by rw [Ny147.out, List.length_take]; omega)
    rw [← Ny147.out] at hr5
    rw [← hy5] at hcut5
    have HR150 := Aside0.mk hr5
    have HC150 := Aside0.mk (show y147.length ≤ co6 from by omega)
    clear hr5 hC5 hroom5 hi05 hsz5
    have KY5 := Aside0.mk hy5
    clear hy5
    have KL5 := Aside0.mk (show 508 ≤ l0.length from by omega)
    replace q5 := eq_true q5
    go_enter Tryd.func50, Tryd.ntmps50
    go_wp2_with (first | ((with_reducible refine gate_callee (f := 82) rfl ?_); refine goesL_ (some 6) rfl rfl Tryd.func82 (by kernel_rfl) rfl #[.slice Ao6 y147.length co6] rfl (by (try simp only [List.map_toArray, List.map_cons, List.map_nil]); first | done | rfl | (simp only [List.length_drop, List.length_take]; rfl)) ?_; (with_reducible refine (impl_Crc32.calls k _ _ y147 t151 _ ?side1 ?side2 A3.out).mono ?_); (case side1 => repeat (first | exact (by repeat (first | (with_reducible exact HR150.out) | (with_reducible refine Kd.C_alloc ?_ _) | (with_reducible refine Kd.C_drewN ?_ _) | (with_reducible refine Kd.C_drew ?_) | exact HR150.out)) | (with_reducible refine Kd.C_alloc ?_ _) | (with_reducible refine Kd.C_drewN ?_ _) | (with_reducible refine Kd.C_drew ?_))); (case side2 => exact HC150.out); rintro e w' ⟨rfl, ⟨nd, rfl⟩⟩; refine ⟨_, rfl, ?_⟩) | ((with_reducible refine gate_callee (f := 81) rfl ?_); refine goesL_ (some 7) rfl rfl Tryd.func81 (by kernel_rfl) rfl #[.slice Ao6 l0.length co6, .int .i64 508, .int .i64 4, .int .u32 t151] rfl (by (try simp only [List.map_toArray, List.map_cons, List.map_nil]); first | done | rfl | (simp only [List.length_drop, List.length_take]; rfl)) ?_; (with_reducible refine (impl_put_uint32.calls k (fun k_ => some k_ = (.slice Ao6 l0.length co6 : Value).ownBlock) (.slice Ao6 l0.length co6) l0 508 4 t151 t152 w0 _ ?side1 ?side2 A4.out).mono ?_); (case side1 => repeat (first | (with_reducible first | exact HB.out | apply below_alloc | apply pw_below_drewN | apply below_drew1) | exact HB.out)); (case side2 => exact Kd.R_tight rfl HO0.out); rintro e w7 ⟨rfl, hy0, hb, hkp⟩; refine ⟨_, rfl, ?_⟩; have n0_ := Aside0.mk (Kd.R_reok rfl hy0 (fun k_ e_ => HO0.out.1 k_ e_)); have n1_ := Aside0.mk (Kept.then_ (S := (fun k_ => P0_ k_)) (by repeat (first | (with_reducible first | exact HK.out | apply Kept.alloc | apply Kept.drewN | apply Kept.drew) | exact HK.out)) hkp (fun k_ hs_ => (fun e_ => (HO0.out.1 k_ e_.symm)) hs_)); have n2_ := Aside0.mk (hb); clear HO0; clear HK; clear HB; have HO0 := n0_; have HK := n1_; have HB := n2_; clear n0_ n1_ n2_; (try clear hb); (try clear hkp); (try clear hy0)))
    go_ret
    exact ⟨_, by first | rfl | (simp [errW_none, errW_some] <;> rfl) | (simp [*, errW_none, errW_some] <;> rfl), by (with_reducible repeat (first | apply Kd.R_alloc | apply Kd.R_drewN | apply Kd.R_drew)); exact HO0.out, by repeat (first | (with_reducible first | exact HB.out | apply below_alloc | apply pw_below_drewN | apply below_drew1) | exact HB.out), by repeat (first | (with_reducible first | exact HK.out | apply Kept.alloc | apply Kept.drewN | apply Kept.drew) | exact HK.out)⟩
  · rw [if_neg c2] at H
    exact absurd H (by simp)

open Go.Proofs.YtkghgjehjchajaaDoorW Go.Proofs.YtkghgjehjchajaaDoorW.PrintHand Go.Proofs.YtkghgjehjchajaaDoorW.PrintHx
/-! ### impl_EncodeSnap: function 12 -/
open Go.Proofs.YtkghgjehjchajaaDoorW.PrintLe Go.Proofs.YtkghgjehjchajaaDoorW.PrintRaw
theorem made_u8 (n : Nat) : madeCells (Value.int .u8 0).cells (n * 1) = (nums .u8 (List.replicate n 0)).toArray := by
  apply Array.ext
  · simp [madeCells, nums]
  · intro i h1 h2
    simp [madeCells, nums, Value.cells, Nat.mod_one]
theorem make_u8 {P : Program} {o : Oper} {a : Act} {w : World} (t e n : Nat) (x y : Operand) (ho : o.op = .makeSlice t x y) (hx : a.eval x = .int .i64 (n : Int)) (hy : a.eval y = .int .i64 (n : Int)) (ht : P.underlying t = some (.slice e)) (hinfo : (P.info? e).map (fun i => (i.zero, i.size, i.bytes)) = some (some (.int .u8 0), 1, 1)) (hn : n ≤ 1048576) :
    (execOp a.eval o).run P w = .ok (.value (.slice (some ⟨w.heap.size, 0, none⟩) n n)) (w.alloc (.cells (nums .u8 (List.replicate n 0)).toArray e)) := by
  obtain ⟨i0, hi, hzz⟩ := Option.map_eq_some_iff.1 hinfo
  simp only [Prod.mk.injEq] at hzz
  obtain ⟨hz0, hz1, hz2⟩ := hzz
  have hr := run_make (P := P) w t e i0 (.int .u8 0) ht hi hz0 .i64 .i64 (n : Int) (n : Int) (by omega) (by omega)
    (by
      have h3 : ((i0.bytes * n : Nat) : Int) ≤ 281474976710656 := by rw [hz2]; omega
      rwa [Int.natCast_mul] at h3) (by omega)
  simp only [Int.toNat_natCast] at hr
  rw [hz1, made_u8] at hr
  simp [execOp, ho, hx, hy, hr]
set_option maxHeartbeats 8000000 in
set_option maxRecDepth 100000 in
/-- put, on a block of bytes (the slice may begin inside it) -/
theorem impl_put_int.raw (g off n cap at_ size : Nat) (L : List Int) (v : Int) (w : World) (hg : w.heap[g]? = some (.cells (nums .u8 L).toArray 5 (0, 0))) (hn : off + n ≤ L.length) (hat : at_ + size ≤ n) (h8 : size ≤ 8) (hL : L.length ≤ 1048576) :
    Calls Tryd.prog 48 #[.slice (some ⟨g, off, none⟩) n cap, .int .i64 (at_ : Int), .int .i64 (size : Int), .int .i64 v] w fun e w' => e = .returned (.tuple #[]) ∧ MT g w w' ∧ w'.heap[g]? = some (.cells (nums .u8 (L.take (off + at_) ++ leB v size ++ L.drop (off + at_ + size))).toArray 5 (0, 0)) := by
  have HG := Aside0.mk hg
  have HN := Aside0.mk hn
  have HAT := Aside0.mk hat
  have H8 := Aside0.mk h8
  have HL := Aside0.mk hL
  clear hg hn hat h8 hL
  go_enter Tryd.func48, Tryd.ntmps48
  go_wp2
  go_loopw [8, 10] (fun v8 v10 wr => ∃ (j : Nat) (u : Value), u = v8 ∧ v10 = .int .i64 (j : Int) ∧ Aside0 (j ≤ size) ∧ Aside0 (MT g w wr) ∧ Aside0 (wr.heap[g]? = some (.cells (nums .u8 (L.take (off + at_) ++ leB v j ++ L.drop (off + at_ + j))).toArray 5 (0, 0)))) (fun _ v10 _ => size - (intOf v10).toNat)
  case atStart => exact ⟨0, _, rfl, rfl, ⟨Nat.zero_le _⟩, ⟨MT.refl _ _⟩, ⟨by simpa [leB] using HG.out⟩⟩
  case round =>
    obtain ⟨j, v8, rfl, rfl, hj, HM, HC⟩ := hrel
    by_cases c9 : j < size
    · have c9b0 : decide ((j : Int) < (size : Int)) = true := decide_eq_true (by omega)
      have c9b1 : decide (j < size) = true := decide_eq_true c9
      have hs8 := H8.out
      have hat2 := HAT.out
      have hn2 := HN.out
      have hl2 := HL.out
      have e1 : wrap64 ((at_ : Int) + (j : Int)) = ((at_ + j : Nat) : Int) := by unfold wrap64; omega
      have e2 : wrap64 (8 * (j : Int)) = ((8 * j : Nat) : Int) := by unfold wrap64; omega
      have q1 : (0 ≤ wrap64 ((at_ : Int) + (j : Int))) = True := eq_true (by rw [e1]; omega)
      have q2 : (wrap64 ((at_ : Int) + (j : Int)) < (n : Int)) = True := eq_true (by rw [e1]; omega)
      have q3 : (0 ≤ wrap64 (8 * (j : Int))) = True := eq_true (by rw [e2]; omega)
      have q4 : (wrap64 (8 * (j : Int)) < 0) = False := eq_false (by rw [e2]; omega)
      have q5 : decide (wrap64 (8 * (j : Int)) < 0) = false := decide_eq_false (by rw [e2]; omega)
      obtain ⟨M, hM⟩ : ∃ M, M = L.take (off + at_) ++ leB v j ++ L.drop (off + at_ + j) := ⟨_, rfl⟩
      have hml : M.length = L.length := by rw [hM, List.length_append, List.length_append, List.length_take, List.length_drop, leB_length]; omega
      have hc := HC.out
      rw [← hM] at hc
      have HC2 := Aside0.mk hc
      have HML := Aside0.mk (show off + (at_ + j) < M.length by rw [hml]; omega)
      have HMM := Aside0.mk hM
      have C9 := Aside0.mk c9
      have E1 := Aside0.mk e1
      have E2 := Aside0.mk e2
      clear hs8 hat2 hn2 hl2 hM hml hc HC c9 e1 e2
      go_wp2_with (first | ((with_reducible refine gate_store (t := 5) (p := 23) (v := .tmp 22) rfl ?_); refine st_num rfl rfl 5 (.tmp 23) (.tmp 22) rfl g (off + (at_ + j)) .u8 _ (by rw [E1.out]; rfl) rfl (by kernel_rfl) HC2.out HML.out ?_; intro w2 t2 g2))
      go_roundw
      case rel =>
        refine ⟨j + 1, _, rfl, by rw [show wrap64 ((j : Int) + 1) = ((j + 1 : Nat) : Int) by (have := C9.out; have := H8.out; unfold wrap64; omega)], ⟨by have := C9.out; omega⟩, ⟨HM.out.touch t2⟩, ⟨?_⟩⟩
        have hs8 := H8.out
        have hj2 := C9.out
        have hn2 := HN.out
        have ha2 := HAT.out
        have h_ := g2
        rw [byte_at v j (by omega), show off + (at_ + j) = (off + at_) + j by omega, set_next (p := off + at_) HMM.out (by omega), show off + at_ + (j + 1) = off + at_ + j + 1 by omega] at h_
        rw [show off + at_ + (j + 1) = off + at_ + j + 1 by omega]
        exact h_
      case measure =>
        rw [show wrap64 ((j : Int) + 1) = ((j + 1 : Nat) : Int) by (have := C9.out; have := H8.out; unfold wrap64; omega)]
        simp only [intOf, Int.toNat_natCast]
        have := C9.out
        omega
    · obtain rfl : j = size := by have := hj.out; omega
      have c9b0 : decide ((j : Int) < (j : Int)) = false := decide_eq_false (by omega)
      have c9b1 : decide (j < j) = false := decide_eq_false (by omega)
      clear c9
      go_wp2
      refine Go.Great.bodyPost_end0 rfl rfl ⟨rfl, HM.out, HC.out⟩
theorem impl_Root_put.rstep (s : Int) (xs L : List Int) (off j : Nat) (hx : xs.length = 14) (hj : j < 14) (hl : off + 64 ≤ L.length) (p : Int) (hp : p = xs.getD j 0) :
    let ls := L.take off ++ leB s 8 ++ flat4 (xs.take j) ++ L.drop (off + 8 + 4 * j)
    ls.take (off + (8 + 4 * j)) ++ leB p 4 ++ ls.drop (off + (8 + 4 * j) + 4) = L.take off ++ leB s 8 ++ flat4 (xs.take (j + 1)) ++ L.drop (off + 8 + 4 * (j + 1)) := by
  intro ls
  have h1 : (L.take off ++ leB s 8 ++ flat4 (xs.take j)).length = off + (8 + 4 * j) := by
    rw [List.length_append, List.length_append, leB_length, flat4_length, List.length_take, List.length_take, hx, Nat.min_eq_left (by omega), Nat.min_eq_left (by omega)]
    omega
  have e1 : ls.take (off + (8 + 4 * j)) = L.take off ++ leB s 8 ++ flat4 (xs.take j) := by rw [← h1]; exact List.take_left
  have e2 : ls.drop (off + (8 + 4 * j) + 4) = L.drop (off + 8 + 4 * (j + 1)) := by
    show (L.take off ++ leB s 8 ++ flat4 (xs.take j) ++ L.drop (off + 8 + 4 * j)).drop (off + (8 + 4 * j) + 4) = _
    rw [List.drop_append, h1, List.drop_eq_nil_of_le (by rw [h1]; omega), List.nil_append, List.drop_drop]
    congr 1
    omega
  rw [e1, e2, flat4_take xs j (by omega), hp, List.append_assoc (L.take off ++ leB s 8)]
theorem impl_Root_put.rlen (s : Int) (xs L : List Int) (off j : Nat) (hx : xs.length = 14) (hj : j < 14) (hl : off + 64 ≤ L.length) : (L.take off ++ leB s 8 ++ flat4 (xs.take j) ++ L.drop (off + 8 + 4 * j)).length = L.length := by
  rw [List.length_append, List.length_append, List.length_append, leB_length, flat4_length, List.length_take, List.length_take, hx, Nat.min_eq_left (by omega), Nat.min_eq_left (by omega), List.length_drop]
  omega
set_option maxHeartbeats 8000000 in
set_option maxRecDepth 100000 in
/-- Root.put, on a block of bytes (the slice may begin inside it) -/
theorem impl_Root_put.raw (a0 : List Int) (n0 : a0.length = 15) (hgood : rootGood a0 = true) (g off n cap : Nat) (L : List Int) (w : World) (hg : w.heap[g]? = some (.cells (nums .u8 L).toArray 5 (0, 0))) (hn : off + n ≤ L.length) (h64 : 64 ≤ n) (hL : L.length ≤ 1048576) :
    Calls Tryd.prog 49 #[.agg (nums .i64 a0).toArray, .slice (some ⟨g, off, none⟩) n cap] w fun e w' => e = .returned (.tuple #[]) ∧ MT g w w' ∧ w'.heap[g]? = some (.cells (nums .u8 (L.take off ++ rootBytes a0 ++ L.drop (off + 64))).toArray 5 (0, 0)) := by
  have N_ := Aside0.mk n0
  have HG := Aside0.mk hgood
  have HN := Aside0.mk hn
  have H64 := Aside0.mk h64
  have HL := Aside0.mk hL
  have HC0 := Aside0.mk hg
  have hgl := blk_lt hg
  have HGL := Aside0.mk hgl
  clear n0 hgood hn h64 hL hg
  obtain ⟨s, hs⟩ : ∃ s, s = a0.getD 0 0 := ⟨_, rfl⟩
  have HS := Aside0.mk hs
  clear hs
  obtain ⟨xs, hxs⟩ : ∃ xs, xs = seg a0 1 14 := ⟨_, rfl⟩
  have HP := Aside0.mk (show impl_Root_pointers.f a0 = some xs by rw [hxs]; exact if_pos N_.out)
  have HXL := Aside0.mk (show xs.length = 14 by rw [hxs]; exact part_len (n := 15) N_.out (by decide))
  have HXS := Aside0.mk hxs
  clear hxs
  have hu31 := Tryd.underlying31
  have HB0 : Aside0 (Below w.heap.size w w) := ⟨Below.refl _ _⟩
  obtain ⟨s0, Sz0⟩ : ∃ s0, Aside0 (w.heap.size = s0) := ⟨_, ⟨rfl⟩⟩
  have hw0 : w.heap.size ≤ s0 := Nat.le_of_eq Sz0.out
  have hw1 : s0 ≤ w.heap.size := Nat.le_of_eq Sz0.out.symm
  have hgs : g < s0 := by omega
  clear hgl
  go_enter Tryd.func49, Tryd.ntmps49
  go_wp2_with (first | ((with_reducible refine gate_dst (N := 2) rfl ?_); refine hx_box rfl 2 rfl 31 (.tmp 0) rfl Sz0 (.agg (nums .i64 a0).toArray) (nums .i64 a0).toArray rfl rfl ?_; intro w1 s1 L1 Sz1 b1 g_; have H1 := Aside0.mk g_; have HC1 := Aside0.mk (blk_below HC0.out b1); have M1 := Aside0.mk (MT.of_below (g := g) b1); clear g_ b1 HB0 HC0) | ((with_reducible refine gate_dst (N := 8) rfl ?_); refine hx_loadf rfl 3 (.tmp 7) rfl s0 0 rfl Tryd.underlying3 rfl H1.out (lt_len (n := 15) N_.out (by decide)) ?_; rw [← HS.out]) | ((with_reducible refine gate_dst (N := 9) rfl ?_); refine goesL_ (some 9) rfl rfl Tryd.func48 (by kernel_rfl) rfl #[.slice (some ⟨g, off, none⟩) n cap, .int .i64 0, .int .i64 8, .int .i64 s] rfl (by (try simp only [List.map_toArray, List.map_cons, List.map_nil]); first | done | rfl) ?_; refine (impl_put_int.raw g off n cap 0 8 L s w1 HC1.out HN.out (by have := H64.out; omega) (by decide) HL.out).mono ?_; rintro e_ w2 ⟨rfl, m_, g_⟩; refine ⟨_, rfl, ?_⟩; have H2 := Aside0.mk (m_.blk (show s0 ≠ g by omega) H1.out); have HC2 := Aside0.mk g_; have M2 := Aside0.mk (M1.out.trans m_); obtain ⟨s2, L2, Sz2⟩ := size_letter Sz1 m_.kept; clear m_ g_ H1 HC1 M1) | ((with_reducible refine gate_dst (N := 10) rfl ?_); refine hx_load rfl 31 (.tmp 2) rfl s0 15 rfl Tryd.underlying31 rfl (by kernel_rfl) H2.out (nums_size _ _ _ N_.out) ?_) | ((with_reducible refine gate_dst (N := 11) rfl ?_); refine goesL_ (some 11) rfl rfl Tryd.func80 (by kernel_rfl) rfl #[.agg (nums .i64 a0).toArray] rfl (by (try simp only [List.map_toArray, List.map_cons, List.map_nil]); first | done | rfl) ?_; refine (impl_Root_pointers.calls a0 N_.out xs _ HP.out).mono ?_; rintro e_ w3 ⟨v0_, rfl, R_, b_⟩; obtain ⟨A11, c11, rfl⟩ := Kd.R_slice R_; refine ⟨_, rfl, ?_⟩; obtain ⟨s3, L3, Sz3⟩ := size_letter Sz2 (kept_below b_); have OP := own_btw (B := 0) R_ Sz2.out Sz3 (Nat.zero_le _); have HC3 := Aside0.mk (blk_below HC2.out b_); have M3 := Aside0.mk (M2.out.then_ b_); clear R_ b_ HC2 M2 H2))
  (try simp only [Act.put, List.setIfInBounds_toArray, List.set_cons_succ, List.set_cons_zero])
  go_loopw [4, 5, 13] (fun v4 v5 v13 wr => ∃ (j : Nat) (u4 u5 : Value), u4 = v4 ∧ u5 = v5 ∧ v13 = .int .i64 (j : Int) ∧ Aside0 (j ≤ 14) ∧ Aside0 (wr.heap[g]? = some (.cells (nums .u8 (L.take off ++ leB s 8 ++ flat4 (xs.take j) ++ L.drop (off + 8 + 4 * j))).toArray 5 (0, 0))) ∧ Aside0 (Kd.R (Kd.int .i64) 3 wr 0 (Btw s2 s3) (.slice A11 xs.length c11) xs) ∧ Aside0 (MT g w wr)) (fun _ _ v13 _ => 14 - (intOf v13).toNat)
  case atStart => exact ⟨0, _, _, rfl, rfl, rfl, ⟨by omega⟩, ⟨by have := HC3.out; simpa [flat4] using this⟩, OP, M3⟩
  case round =>
    clear HC3 OP M3
    obtain ⟨j, v4, v5, rfl, rfl, rfl, hj, HC, OP, HM⟩ := hrel
    by_cases c9 : j < 14
    · have c9b0 : decide ((j : Int) < (xs.length : Int)) = true := decide_eq_true (by rw [HXL.out]; omega)
      have c9b1 : decide (j < xs.length) = true := decide_eq_true (by rw [HXL.out]; omega)
      have p112 : 0 ≤ (j : Int) := by omega
      have q112 : (j : Int) < (xs.length : Int) := by rw [HXL.out]; omega
      obtain ⟨ad112, e112, hx112⟩ := Kd.at_int (Kd.R_reads' OP.out).2.2 (j : Int) p112 q112
      cases e112
      rw [Int.toNat_natCast] at hx112
      replace p112 := eq_true p112
      replace q112 := eq_true q112
      have q113 : (j < xs.length) = True := eq_true (by rw [HXL.out]; omega)
      obtain ⟨p, hp⟩ : ∃ p, p = rd xs (j : Int) := ⟨_, rfl⟩
      rw [← hp] at hx112
      have HPV := Aside0.mk (show p = xs.getD j 0 by rw [hp, rd, Int.toNat_natCast])
      obtain ⟨ls, hls⟩ : ∃ ls, ls = L.take off ++ leB s 8 ++ flat4 (xs.take j) ++ L.drop (off + 8 + 4 * j) := ⟨_, rfl⟩
      have HLL := Aside0.mk (show ls.length = L.length by rw [hls]; exact impl_Root_put.rlen s xs L off j HXL.out c9 (by have h1_ := HN.out; have h2_ := H64.out; omega))
      have HAT := Aside0.mk (impl_Root_put.at_ j c9)
      have hc := HC.out
      rw [← hls] at hc
      have HC4 := Aside0.mk hc
      have HLS := Aside0.mk hls
      have C9 := Aside0.mk c9
      clear hp c9 hls hc HC
      go_wp2_with (first | ((with_reducible refine gate_dst (N := 23) rfl ?_); refine goesL_ (some 23) rfl rfl Tryd.func48 (by kernel_rfl) rfl #[.slice (some ⟨g, off, none⟩) n cap, .int .i64 ((8 + 4 * j : Nat) : Int), .int .i64 4, .int .i64 p] rfl (by (try simp only [List.map_toArray, List.map_cons, List.map_nil]); first | done | rfl | (rw [← HAT.out]; rfl)) ?_; refine (impl_put_int.raw g off n cap (8 + 4 * j) 4 ls p _ HC4.out (by rw [HLL.out]; exact HN.out) (by have h1_ := H64.out; have h2_ := C9.out; omega) (by decide) (by rw [HLL.out]; exact HL.out)).mono ?_; rintro e_ w4 ⟨rfl, m_, g_⟩; refine ⟨_, rfl, ?_⟩; have HC5 := Aside0.mk g_; have M5 := Aside0.mk (HM.out.trans m_); have OP5 := Aside0.mk (m_.R OP.out (fun k hk => by have h1_ := hk.1; omega)); clear m_ g_ HC4 HM OP))
      go_roundw
      case rel =>
        refine ⟨j + 1, _, _, rfl, rfl, by rw [show wrap64 ((j : Int) + 1) = ((j + 1 : Nat) : Int) by (have := C9.out; unfold wrap64; omega)], ⟨by have := C9.out; omega⟩, ⟨?_⟩, OP5, M5⟩
        have ho := HC5.out
        have e_ := impl_Root_put.rstep s xs L off j HXL.out C9.out (by have h1_ := HN.out; have h2_ := H64.out; omega) p HPV.out
        simp only [] at e_
        rw [← HLS.out] at e_
        rw [e_] at ho
        exact ho
      case measure =>
        rw [show wrap64 ((j : Int) + 1) = ((j + 1 : Nat) : Int) by (have := C9.out; unfold wrap64; omega)]
        simp only [intOf, Int.toNat_natCast]
        have := C9.out
        omega
    · obtain rfl : j = 14 := by have := hj.out; omega
      have c9b0 : decide ((14 : Int) < (xs.length : Int)) = false := decide_eq_false (by rw [HXL.out]; decide)
      have c9b1 : decide (14 < xs.length) = false := decide_eq_false (by rw [HXL.out]; decide)
      go_wp2
      have ho := HC.out
      rw [show xs.take 14 = xs from List.take_of_length_le (by rw [HXL.out]; exact Nat.le_refl _), HXS.out, HS.out, List.append_assoc (L.take off)] at ho
      refine Go.Great.bodyPost_end0 rfl rfl ⟨rfl, HM.out, ho⟩
open Go.Proofs.YtkghgjehjchajaaDoorW.PrintLe Go.Proofs.YtkghgjehjchajaaDoorW.PrintGrow Go.Proofs.YtkghgjehjchajaaDoorW.PrintDec Go.Proofs.YtkghgjehjchajaaDoorW.PrintIno Go.Proofs.YtkghgjehjchajaaDoorW.PrintTab2 Go.Proofs.YtkghgjehjchajaaDoorW.PrintTab3 Go.Proofs.YtkghgjehjchajaaDoorW.PrintFsi Go.Proofs.YtkghgjehjchajaaDoorW.PrintFsb Go.Proofs.YtkghgjehjchajaaDoorW.PrintFsd Go.Proofs.YtkghgjehjchajaaDoorW.PrintCrc Go.Proofs.YtkghgjehjchajaaDoorW.PrintSnp Go.Proofs.YtkghgjehjchajaaDoorW.PrintRaw
theorem implCrc_l1 (l : List Int) (x8 : Int) : ∀ (d i k n : Nat), i + d = 8 → n < 4294967296 → impl_Crc32.l1 (k + d + 1) (n : Int) l (l.length : Int) x8 (i : Int) = impl_Crc32.l0 k ((stepN d n : Nat) : Int) l (l.length : Int) (wrap64 (x8 + 1))
  | 0, i, k, n, h1, h3 => by
    simp only [impl_Crc32.l1]
    rw [if_neg (by omega)]
    rfl
  | d + 1, i, k, n, h1, h3 => by
    have ea := and1_u32 n h3
    have e2 : (n : Int) / 2 = ((n / 2 : Nat) : Int) := by omega
    have hv : Go.bits .xor .u32 ((n : Int) / 2) (Go.bits .and .u32 3988292384 ((-(Go.bits .and .u32 (n : Int) 1)) % 4294967296)) = ((stepB n : Nat) : Int) := by
      rw [ea, e2]
      by_cases hp : n % 2 = 1
      · rw [hp, show (-((1 : Nat) : Int)) % 4294967296 = 4294967295 by omega, show Go.bits .and .u32 3988292384 4294967295 = ((3988292384 : Nat) : Int) by decide +kernel, xor_nat _ _ (by omega) (by omega)]
        simp only [stepB, if_pos hp]
      · rw [show n % 2 = 0 by omega, show (-((0 : Nat) : Int)) % 4294967296 = 0 by omega, show Go.bits .and .u32 3988292384 0 = ((0 : Nat) : Int) by decide +kernel, xor_nat _ _ (by omega) (by omega)]
        simp only [stepB, if_neg hp]
    rw [show k + (d + 1) + 1 = (k + d + 1) + 1 by omega, impl_Crc32.l1, if_pos (by omega), hv, w64n (by omega), implCrc_l1 l x8 d (i + 1) k _ (by omega) (stepB_lt h3)]
    rfl
theorem implCrc_l0 (l : List Int) (hb : ∀ x ∈ l, 0 ≤ x ∧ x ≤ 255) (hl : l.length ≤ 1048576) : ∀ (d i k n : Nat), i + d = l.length → 10 * d + 10 < k → n < 4294967296 → impl_Crc32.l0 k (n : Int) l (l.length : Int) (i : Int) = some (Go.bits .xor .u32 4294967295 ((crcI n (nats (l.drop i)) : Nat) : Int))
  | 0, i, k, n, h1, h2, h3 => by
    obtain ⟨k, rfl⟩ := sucK h2
    simp only [impl_Crc32.l0]
    rw [if_neg (by omega), List.drop_eq_nil_of_le (by omega)]
    rfl
  | d + 1, i, k, n, h1, h2, h3 => by
    obtain ⟨k, rfl⟩ : ∃ j, k = (j + 8 + 1) + 1 := ⟨k - 10, by omega⟩
    have hi : i < l.length := by omega
    have hx := hb _ (List.getElem_mem hi)
    obtain ⟨c, hc⟩ := Int.eq_ofNat_of_zero_le hx.1
    have hc8 : c < 256 := by omega
    have hlt : n ^^^ c < 2 ^ 32 := Nat.xor_lt_two_pow (by omega) (by omega)
    rw [impl_Crc32.l0]
    rw [if_pos (by omega), if_pos (by omega), if_pos (by omega), rd_some hi, hc, show (c : Int) % 4294967296 = (c : Int) by omega, xor_nat _ _ h3 (by omega)]
    have h := implCrc_l1 l (i : Int) 8 0 k (n ^^^ c) rfl (by omega)
    rw [show ((0 : Nat) : Int) = 0 from rfl] at h
    rw [h, w64n (by omega), implCrc_l0 l hb hl d (i + 1) k _ (by omega) (by omega) (stepN_lt 8 (by omega)), List.drop_eq_getElem_cons hi]
    simp only [nats, List.map_cons, hc, Int.toNat_natCast, crcI]
theorem implCrc_f (l : List Int) (hb : ∀ x ∈ l, 0 ≤ x ∧ x ≤ 255) (hl : l.length ≤ 1048576) (k : Nat) (hk : 10 * l.length + 10 < k) : impl_Crc32.f k l = some (Go.bits .xor .u32 4294967295 ((crcI 4294967295 (nats l) : Nat) : Int)) := by
  unfold impl_Crc32.f
  exact implCrc_l0 l hb hl l.length 0 k 4294967295 (by omega) hk (by omega)
theorem implCrc_v (l : List Int) (hb : ∀ x ∈ l, 0 ≤ x ∧ x ≤ 255) (hl : l.length ≤ 1048576) (k : Nat) (hk : 10 * l.length + 10 < k) : impl_Crc32.f k l = some (crcV l) := by
  have hlt := crcI_lt (nats l) (nats_byt hb) 4294967295 (by omega)
  have e : (4294967295 : Int) = ((4294967295 : Nat) : Int) := rfl
  rw [implCrc_f l hb hl k hk, e, xor_nat _ _ (by omega) hlt, Nat.xor_comm 4294967295]
  rfl
theorem put32_l0 (v : Int) (at_ size : Nat) (h0 : 0 ≤ v) (h1 : v ≤ 9223372036854775807) (h8 : size ≤ 8) : ∀ (d i k : Nat) (x0 : List Int), i + d = size → d < k → at_ + size ≤ x0.length → x0.length ≤ 1048576 → impl_put_uint32.l0 k x0 (at_ : Int) v (size : Int) (i : Int) = some (x0.take (at_ + i) ++ leB (v / 256 ^ i) d ++ x0.drop (at_ + size))
  | 0, i, k, x0, e1, e2, e3, e4 => by
    obtain ⟨k, rfl⟩ := sucK e2
    simp only [impl_put_uint32.l0]
    rw [if_neg (by omega), show at_ + i = at_ + size by omega]
    simp [leB]
  | d + 1, i, k, x0, e1, e2, e3, e4 => by
    obtain ⟨k, rfl⟩ := sucK e2
    simp only [impl_put_uint32.l0]
    have hw : wrap64 ((at_ : Int) + (i : Int)) = ((at_ + i : Nat) : Int) := by unfold wrap64; omega
    have h8i : wrap64 (8 * (i : Int)) = ((8 * i : Nat) : Int) := by unfold wrap64; omega
    rw [hw, h8i, if_pos (by omega), if_pos (by omega), if_pos (by omega), if_pos (by omega), w64n (by omega), put32_l0 v at_ size h0 h1 h8 d (i + 1) k _ (by omega) (by omega) (by simpa using e3) (by simpa using e4)]
    have hv : (shr .u64 (IntKind.u64.wrap v) ((8 * i : Nat) : Int)) % 256 = v / 256 ^ i % 256 := by
      rw [wraps_u64 _ h0 (by omega)]
      unfold shr
      rw [Int.toNat_natCast, Nat.min_eq_left (by simp [IntKind.bits]; omega), Int.pow_mul, show (2 : Int) ^ 8 = 256 by decide]
    rw [hv, Int.toNat_natCast]
    congr 1
    have hlt : at_ + i < x0.length := by omega
    rw [show at_ + (i + 1) = (at_ + i) + 1 by omega, List.take_succ_eq_append_getElem (by simpa using hlt), List.getElem_set_self, List.take_set_of_le (Nat.le_refl _), List.drop_set_of_lt (by omega), leB, Int.ediv_ediv_of_nonneg (by have := p256 i; omega), ← Int.pow_succ]
    simp
/-- put: a number's bytes at a place -/
theorem put32_f (x0 : List Int) (at_ size : Nat) (v : Int) (h0 : 0 ≤ v) (h1 : v ≤ 9223372036854775807) (h8 : size ≤ 8) (hat : at_ + size ≤ x0.length) (hx : x0.length ≤ 1048576) (k : Nat) (hk : 8 < k) : impl_put_uint32.f k x0 (at_ : Int) (size : Int) v = some (x0.take at_ ++ leB v size ++ x0.drop (at_ + size)) := by
  unfold impl_put_uint32.f
  have h := put32_l0 v at_ size h0 h1 h8 size 0 k x0 (by omega) (by omega) hat hx
  rw [Int.pow_zero, Int.ediv_one] at h
  exact h
theorem impl_EncodeSnap.sealed {x : Int} {s : ByteArray} {p q : Int} {r : List Int} (hs : s.size ≤ 26) (hr : r.length = 15) : impl_sealed.f 6000 (snapBody x s p q r ++ List.replicate 392 0) = some (snapBytes x s p q r) := by
  have hb := snapFill_byt x s p q r
  have hl : (snapFill x s p q r).length = 508 := snapFill_length hs hr
  have hc := crcV_range hb
  have hbl : (snapBody x s p q r).length = 120 := snapBody_length hs hr
  have ht : (snapBody x s p q r ++ List.replicate 392 0).take 508 = snapFill x s p q r := by
    rw [List.take_append, List.take_of_length_le (by rw [hbl]; decide), hbl, List.take_replicate]
    rfl
  unfold impl_sealed.f
  rw [if_pos (by rw [List.length_append, hbl, List.length_replicate]; decide), ht, implCrc_v (snapFill x s p q r) hb (by rw [hl]; decide) 6000 (by rw [hl]; decide)]
  simp only [Option.bind_some]
  rw [show (508 : Int) = ((508 : Nat) : Int) from rfl, show (4 : Int) = ((4 : Nat) : Int) from rfl, put32_f _ 508 4 (crcV (snapFill x s p q r)) hc.1 (by omega) (by decide) (by rw [List.length_append, hbl, List.length_replicate]; decide) (by rw [List.length_append, hbl, List.length_replicate]; decide) 6000 (by decide)]
  simp only [Option.bind_some]
  rw [ht, List.drop_eq_nil_of_le (by rw [List.length_append, hbl, List.length_replicate]; decide), List.append_nil]
  rfl
set_option maxHeartbeats 8000000 in
set_option maxRecDepth 100000 in
theorem impl_EncodeSnap.calls (x : Int) (s : ByteArray) (p q : Int) (r : List Int) (nr : r.length = 15) (k : Nat) (c : Int) (hc : impl_CheckName.f k s = some c) (hsz : c = 0 → s.size ≤ 26) (r1 : List Int) (r2 : Int) (w : World) (hv : Kd.C (Kd.int .u8) w (some ⟨0, 0, none⟩) 8 magicS) (h : (if snapGood x c p q r = true then (snapBytes x s p q r, (0 : Int)) else ([], 7)) = (r1, r2)) :
    Calls Tryd.prog 12 #[.agg (snapC x s p q r).toArray] w fun e w' => ∃ v0_ : Value, e = .returned (.tuple #[v0_, .int .i64 r2]) ∧ Kd.R (Kd.int .u8) 5 w' w.heap.size (fun _ => True) v0_ r1 ∧ Below w.heap.size w w' := by
  have HV := Aside0.mk hv
  have NR := Aside0.mk nr
  have HC := Aside0.mk hc
  have HB0 : Aside0 (Below w.heap.size w w) := ⟨Below.refl _ _⟩
  obtain ⟨s0, Sz0⟩ : ∃ s0, Aside0 (w.heap.size = s0) := ⟨_, ⟨rfl⟩⟩
  have hw0 : w.heap.size ≤ s0 := Nat.le_of_eq Sz0.out
  have hw1 : s0 ≤ w.heap.size := Nat.le_of_eq Sz0.out.symm
  by_cases hgood : snapGood x c p q r = true
  case neg =>
    rw [if_neg hgood] at h
    obtain ⟨rfl, rfl⟩ := Prod.mk.inj h
    have HG := Aside0.mk (show impl_Snap_right.f x c p q r = some false by rw [show false = snapGood x c p q r by simpa using hgood]; rfl)
    clear hgood nr hv hc hsz h
    go_enter Tryd.func12, Tryd.ntmps12
    go_wp2_with (first | ((with_reducible refine gate_dst (N := 1) rfl ?_); refine hx_box rfl 1 rfl 33 (.tmp 0) rfl Sz0 (.agg (snapC x s p q r).toArray) (snapC x s p q r).toArray rfl (by simp [Value.cells]) ?_; intro w1 s1 L1 Sz1 b1_ g_; have H_1 := Aside0.mk g_; have HB1 := Aside0.mk (below_then HB0.out HB0.out.size b1_); clear g_ HB0 b1_) | ((with_reducible refine gate_dst (N := 5) rfl ?_); refine hx_load rfl 33 (.tmp 1) rfl s0 19 rfl Tryd.underlying33 rfl (by kernel_rfl) H_1.out (snapC_size NR.out) ?_) | ((with_reducible refine gate_dst (N := 6) rfl ?_); refine goesL_ (some 6) rfl rfl Tryd.func47 (by kernel_rfl) rfl #[.agg (snapC x s p q r).toArray] rfl (by (try simp only [List.map_toArray, List.map_cons, List.map_nil]); first | done | rfl) ?_; refine (impl_Snap_right.calls x s p q r NR.out k c HC.out false _ HG.out).mono ?_; rintro e_ w2 ⟨rfl, b_⟩; refine ⟨_, rfl, ?_⟩; have HB2 := Aside0.mk (below_then HB1.out HB1.out.size b_); have H_2 := Aside0.mk (blk_below H_1.out b_); obtain ⟨s2, L2, Sz2⟩ := size_letter Sz1 (kept_below b_); clear b_ HB1 H_1))
    go_ret2
    exact ⟨_, rfl, Kd.R_nil _ _ _ _ _, HB2.out⟩
  rw [if_pos hgood] at h
  obtain ⟨rfl, rfl⟩ := Prod.mk.inj h
  have HG := Aside0.mk (show impl_Snap_right.f x c p q r = some true by rw [← hgood]; rfl)
  obtain ⟨gx, gc, gp, gq, gr⟩ := snapGood_get hgood
  have hs26 := hsz gc
  have HSE := Aside0.mk (impl_EncodeSnap.sealed (x := x) (p := p) (q := q) hs26 nr)
  have GR := Aside0.mk gr
  have S26 := Aside0.mk hs26
  have info5_ : (Tryd.prog.info? 5).map (fun i => (i.zero, i.size, i.bytes)) = some (some (.int .u8 0), 1, 1) := by kernel_rfl
  clear hgood hv nr hc hsz h gx gc gp gq gr hs26
  go_enter Tryd.func12, Tryd.ntmps12
  go_wp2_with (first | ((with_reducible refine gate_dst (N := 1) rfl ?_); refine hx_box rfl 1 rfl 33 (.tmp 0) rfl Sz0 (.agg (snapC x s p q r).toArray) (snapC x s p q r).toArray rfl (by simp [Value.cells]) ?_; intro w1 s1 L1 Sz1 b1_ g_; have H_1 := Aside0.mk g_; have HB1 := Aside0.mk (below_then HB0.out HB0.out.size b1_); clear g_ HB0 b1_) | ((with_reducible refine gate_dst (N := 5) rfl ?_); refine hx_load rfl 33 (.tmp 1) rfl s0 19 rfl Tryd.underlying33 rfl (by kernel_rfl) H_1.out (snapC_size NR.out) ?_) | ((with_reducible refine gate_dst (N := 6) rfl ?_); refine goesL_ (some 6) rfl rfl Tryd.func47 (by kernel_rfl) rfl #[.agg (snapC x s p q r).toArray] rfl (by (try simp only [List.map_toArray, List.map_cons, List.map_nil]); first | done | rfl) ?_; refine (impl_Snap_right.calls x s p q r NR.out k c HC.out true _ HG.out).mono ?_; rintro e_ w2 ⟨rfl, b_⟩; refine ⟨_, rfl, ?_⟩; have HB2 := Aside0.mk (below_then HB1.out HB1.out.size b_); have H_2 := Aside0.mk (blk_below H_1.out b_); obtain ⟨s2, L2, Sz2⟩ := size_letter Sz1 (kept_below b_); clear b_ HB1 H_1) | ((with_reducible refine gate_dst (N := 8) rfl ?_); refine make_num rfl (N := 8) rfl 512 5 .u8 Sz2 ?hr ?_; (case hr => exact make_u8 28 5 512 _ _ rfl rfl rfl Tryd.underlying28 info5_ (by decide)); intro w3 s3 L3 Sz3 b_ g_; have HB3 := Aside0.mk (below_then HB2.out HB2.out.size b_); have H_3 := Aside0.mk (blk_below H_2.out b_); obtain ⟨Q0, hq0⟩ : ∃ Q, Q = List.replicate 512 (0 : Int) := ⟨_, rfl⟩; rw [← hq0] at g_; have HC_3 := Aside0.mk g_; have E0 := Aside0.mk hq0; have N0 := Aside0.mk (show Q0.length = 512 by rw [hq0]; simp); clear b_ g_ hq0 HB2 H_2) | ((with_reducible refine gate_dst (N := 11) rfl ?_); refine cp_num rfl (.tmp 9) (.tmp 10) 28 28 rfl 5 Tryd.underlying28 (by kernel_rfl) s2 0 512 512 (some ⟨0, 0, none⟩) 8 magicS Q0 rfl rfl HC_3.out (by decide) (by decide) (by rw [N0.out]; decide) (Kd.C_below HV.out (HB3.out)) ?_; intro w4 t_ g_; change w4.heap[s2]? = some (.cells (nums .u8 (Q0.take 0 ++ magicS ++ Q0.drop (0 + 8))).toArray 5 (0, 0)) at g_; have m_ := (MT.refl s2 w3).touch t_; obtain ⟨Q1, hq_⟩ : ∃ Q, Q = Q0.take (0) ++ magicS ++ Q0.drop (0 + 8) := ⟨_, rfl⟩; rw [← hq_] at g_; have N1 := Aside0.mk (show Q1.length = 512 by rw [hq_, List.length_append, List.length_append, List.length_take, List.length_drop, show magicS.length = 8 from rfl, N0.out]; (have := S26.out; first | decide | omega)); have E1 := Aside0.mk hq_; have HC_4 := Aside0.mk g_; have H_4 := Aside0.mk (m_.blk (show s0 ≠ s2 by omega) H_3.out); have M_4 := Aside0.mk m_; clear m_ g_ t_ hq_ HC_3 H_3) | ((with_reducible refine gate_dst (N := 14) rfl ?_); refine wpList_ld1 rfl 3 (.tmp 13) rfl s0 0 rfl (.int .i64 x) Tryd.underlying3 rfl H_4.out rfl ?_) | ((with_reducible refine gate_dst (N := 15) rfl ?_); refine goesL_ (some 15) rfl rfl Tryd.func48 (by kernel_rfl) rfl #[.slice (some ⟨s2, 0, none⟩) 512 512, .int .i64 8, .int .i64 1, .int .i64 x] rfl (by (try simp only [List.map_toArray, List.map_cons, List.map_nil]); first | done | rfl) ?_; refine (impl_put_int.raw s2 0 512 512 8 1 Q1 x w4 HC_4.out (by rw [N1.out]; decide) (by decide) (by decide) (by rw [N1.out]; decide)).mono ?_; rintro e_ w5 ⟨rfl, m_, g_⟩; refine ⟨_, rfl, ?_⟩; obtain ⟨Q2, hq_⟩ : ∃ Q, Q = Q1.take (0 + 8) ++ leB x 1 ++ Q1.drop (0 + 8 + 1) := ⟨_, rfl⟩; rw [← hq_] at g_; have N2 := Aside0.mk (show Q2.length = 512 by rw [hq_, List.length_append, List.length_append, List.length_take, List.length_drop, leB_length, N1.out]; (have := S26.out; first | decide | omega)); have E2 := Aside0.mk hq_; have HC_5 := Aside0.mk g_; have H_5 := Aside0.mk (m_.blk (show s0 ≠ s2 by omega) H_4.out); have M_5 := Aside0.mk (M_4.out.trans m_); clear m_ g_ hq_ HC_4 H_4 M_4) | ((with_reducible refine gate_dst (N := 18) rfl ?_); refine wpList_ld1 rfl 9 (.tmp 17) rfl s0 1 rfl (.string s) Tryd.underlying9 rfl H_5.out rfl ?_) | ((with_reducible refine gate_dst (N := 20) rfl ?_); refine goesL_ (some 20) rfl rfl Tryd.func48 (by kernel_rfl) rfl #[.slice (some ⟨s2, 0, none⟩) 512 512, .int .i64 9, .int .i64 1, .int .i64 ((s.size : Nat) : Int)] rfl (by (try simp only [List.map_toArray, List.map_cons, List.map_nil]); first | done | rfl) ?_; refine (impl_put_int.raw s2 0 512 512 9 1 Q2 ((s.size : Nat) : Int) w5 HC_5.out (by rw [N2.out]; decide) (by decide) (by decide) (by rw [N2.out]; decide)).mono ?_; rintro e_ w6 ⟨rfl, m_, g_⟩; refine ⟨_, rfl, ?_⟩; obtain ⟨Q3, hq_⟩ : ∃ Q, Q = Q2.take (0 + 9) ++ leB ((s.size : Nat) : Int) 1 ++ Q2.drop (0 + 9 + 1) := ⟨_, rfl⟩; rw [← hq_] at g_; have N3 := Aside0.mk (show Q3.length = 512 by rw [hq_, List.length_append, List.length_append, List.length_take, List.length_drop, leB_length, N2.out]; (have := S26.out; first | decide | omega)); have E3 := Aside0.mk hq_; have HC_6 := Aside0.mk g_; have H_6 := Aside0.mk (m_.blk (show s0 ≠ s2 by omega) H_5.out); have M_6 := Aside0.mk (M_5.out.trans m_); clear m_ g_ hq_ HC_5 H_5 M_5))
  (try simp only [Act.put, List.setIfInBounds_toArray, List.set_cons_succ, List.set_cons_zero])
  refine PrintQTail.wp_region_quiet_tail 4 (by kernel_rfl) (by kernel_rfl) ?_
  simp only [List.take_succ_cons, List.take_zero, List.drop_succ_cons, List.drop_zero]
  quiet_step (fail)
  quiet_step (fail)
  quiet_step (fail)
  refine quiet_ld1 rfl 9 (.tmp 23) rfl s0 1 rfl (.string s) Tryd.underlying9 rfl H_6.out rfl ?_
  refine wpQuiet_nil ?_
  intro w_ hw_
  obtain ⟨nq7, rfl⟩ := hw_
  go_wp2_with (first | ((with_reducible refine gate_dst (N := 25) rfl ?_); refine cp_str rfl (.tmp 22) (.tmp 24) 28 9 rfl 5 Tryd.underlying28 (by kernel_rfl) s2 10 502 502 s Q3 rfl rfl (blk_drewN HC_6.out _) (by have := S26.out; omega) (by rw [N3.out]; have := S26.out; omega) ?_; intro w7 t_ g_; have m_ := ((MT.refl s2 w6).then_ (pw_below_drewN (Below.refl _ _) nq7)).trans ((MT.refl s2 _).touch t_); obtain ⟨Q4, hq_⟩ : ∃ Q, Q = Q3.take (10) ++ bytesOf s ++ Q3.drop (10 + s.size) := ⟨_, rfl⟩; rw [← hq_] at g_; have N4 := Aside0.mk (show Q4.length = 512 by rw [hq_, List.length_append, List.length_append, List.length_take, List.length_drop, bytesOf_length, N3.out]; (have := S26.out; first | decide | omega)); have E4 := Aside0.mk hq_; have HC_7 := Aside0.mk g_; have H_7 := Aside0.mk (m_.blk (show s0 ≠ s2 by omega) H_6.out); have M_7 := Aside0.mk (M_6.out.trans m_); clear m_ g_ t_ hq_ HC_6 H_6 M_6) | ((with_reducible refine gate_dst (N := 28) rfl ?_); refine wpList_ld1 rfl 3 (.tmp 27) rfl s0 2 rfl (.int .i64 p) Tryd.underlying3 rfl H_7.out rfl ?_) | ((with_reducible refine gate_dst (N := 29) rfl ?_); refine goesL_ (some 29) rfl rfl Tryd.func48 (by kernel_rfl) rfl #[.slice (some ⟨s2, 0, none⟩) 512 512, .int .i64 40, .int .i64 8, .int .i64 p] rfl (by (try simp only [List.map_toArray, List.map_cons, List.map_nil]); first | done | rfl) ?_; refine (impl_put_int.raw s2 0 512 512 40 8 Q4 p w7 HC_7.out (by rw [N4.out]; decide) (by decide) (by decide) (by rw [N4.out]; decide)).mono ?_; rintro e_ w8 ⟨rfl, m_, g_⟩; refine ⟨_, rfl, ?_⟩; obtain ⟨Q5, hq_⟩ : ∃ Q, Q = Q4.take (0 + 40) ++ leB p 8 ++ Q4.drop (0 + 40 + 8) := ⟨_, rfl⟩; rw [← hq_] at g_; have N5 := Aside0.mk (show Q5.length = 512 by rw [hq_, List.length_append, List.length_append, List.length_take, List.length_drop, leB_length, N4.out]; (have := S26.out; first | decide | omega)); have E5 := Aside0.mk hq_; have HC_8 := Aside0.mk g_; have H_8 := Aside0.mk (m_.blk (show s0 ≠ s2 by omega) H_7.out); have M_8 := Aside0.mk (M_7.out.trans m_); clear m_ g_ hq_ HC_7 H_7 M_7) | ((with_reducible refine gate_dst (N := 32) rfl ?_); refine wpList_ld1 rfl 3 (.tmp 31) rfl s0 3 rfl (.int .i64 q) Tryd.underlying3 rfl H_8.out rfl ?_) | ((with_reducible refine gate_dst (N := 33) rfl ?_); refine goesL_ (some 33) rfl rfl Tryd.func48 (by kernel_rfl) rfl #[.slice (some ⟨s2, 0, none⟩) 512 512, .int .i64 48, .int .i64 8, .int .i64 q] rfl (by (try simp only [List.map_toArray, List.map_cons, List.map_nil]); first | done | rfl) ?_; refine (impl_put_int.raw s2 0 512 512 48 8 Q5 q w8 HC_8.out (by rw [N5.out]; decide) (by decide) (by decide) (by rw [N5.out]; decide)).mono ?_; rintro e_ w9 ⟨rfl, m_, g_⟩; refine ⟨_, rfl, ?_⟩; obtain ⟨Q6, hq_⟩ : ∃ Q, Q = Q5.take (0 + 48) ++ leB q 8 ++ Q5.drop (0 + 48 + 8) := ⟨_, rfl⟩; rw [← hq_] at g_; have N6 := Aside0.mk (show Q6.length = 512 by rw [hq_, List.length_append, List.length_append, List.length_take, List.length_drop, leB_length, N5.out]; (have := S26.out; first | decide | omega)); have E6 := Aside0.mk hq_; have HC_9 := Aside0.mk g_; have H_9 := Aside0.mk (m_.blk (show s0 ≠ s2 by omega) H_8.out); have M_9 := Aside0.mk (M_8.out.trans m_); clear m_ g_ hq_ HC_8 H_8 M_8))
  (try simp only [Act.put, List.setIfInBounds_toArray, List.set_cons_succ, List.set_cons_zero])
  refine PrintQTail.wp_region_quiet_tail 4 (by kernel_rfl) (by kernel_rfl) ?_
  simp only [List.take_succ_cons, List.take_zero, List.drop_succ_cons, List.drop_zero]
  quiet_step (fail)
  refine quiet_load_at rfl 31 (.tmp 34) rfl ⟨s0, 4, none⟩ rfl r 15 Tryd.underlying31 rfl (by kernel_rfl) NR.out (fun i hi => by rw [show (⟨s0, 4, none⟩ : Addr).add i = ⟨s0, 4 + i, none⟩ by unfold Addr.add; split <;> simp_all]; exact (blk_cell H_9.out (4 + i)).trans (snapC_rcell NR.out i hi)) ?_
  quiet_step (fail)
  quiet_step (fail)
  refine wpQuiet_nil ?_
  intro w_ hw_
  obtain ⟨nq10, rfl⟩ := hw_
  go_wp2_with (first | ((with_reducible refine gate_dst (N := 38) rfl ?_); refine goesL_ (some 38) rfl rfl Tryd.func49 (by kernel_rfl) rfl #[.agg (nums .i64 r).toArray, .slice (some ⟨s2, 56, none⟩) 456 456] rfl (by (try simp only [List.map_toArray, List.map_cons, List.map_nil]); first | done | rfl) ?_; refine (impl_Root_put.raw r NR.out GR.out s2 56 456 456 Q6 _ (blk_drewN HC_9.out _) (by rw [N6.out]; decide) (by decide) (by rw [N6.out]; decide)).mono ?_; rintro e_ w10 ⟨rfl, m_, g_⟩; refine ⟨_, rfl, ?_⟩; obtain ⟨Q7, hq_⟩ : ∃ Q, Q = Q6.take (56) ++ rootBytes r ++ Q6.drop (56 + 64) := ⟨_, rfl⟩; rw [← hq_] at g_; have N7 := Aside0.mk (show Q7.length = 512 by rw [hq_, List.length_append, List.length_append, List.length_take, List.length_drop, rootBytes_length NR.out, N6.out]; (have := S26.out; first | decide | omega)); have E7 := Aside0.mk hq_; have m2_ := ((MT.refl s2 w9).then_ (pw_below_drewN (Below.refl _ _) nq10)).trans m_; have M_10 := Aside0.mk (M_9.out.trans m2_); have hfin := snap_puts (x := x) (s := s) (p := p) (q := q) (r := r) (Q0 := Q0) (Q1 := Q1) (Q2 := Q2) (Q3 := Q3) (Q4 := Q4) (Q5 := Q5) (Q6 := Q6) (Q7 := Q7) S26.out NR.out E0.out E1.out E2.out E3.out E4.out E5.out E6.out E7.out; rw [hfin] at g_; have HF_ := Aside0.mk (own_blk (B := w.heap.size) g_ (by omega) (by rw [List.length_append, snapBody_length S26.out NR.out, List.length_replicate]; decide)); have HBF := Aside0.mk (M_10.out.below HB3.out HB3.out.size (by omega)); clear m_ m2_ g_ hq_ hfin HC_9 M_9 M_10 H_9 HB3) | ((with_reducible refine gate_dst (N := 40) rfl ?_); refine goesL_ (some 40) rfl rfl Tryd.func50 (by kernel_rfl) rfl #[.slice (some ⟨s2, 0, none⟩) 512 512] rfl (by (try simp only [List.map_toArray, List.map_cons, List.map_nil]); first | done | rfl) ?_; have ho_ := HF_.out; rw [show (snapBody x s p q r ++ List.replicate 392 (0 : Int)).length = 512 by rw [List.length_append, snapBody_length S26.out NR.out, List.length_replicate]] at ho_; refine (impl_sealed.calls 6000 (fun _ => True) _ _ _ w _ HBF.out ho_ HSE.out).mono ?_; rintro e_ w16 ⟨v66, rfl, R_, b_, k_⟩; refine ⟨_, rfl, ?_⟩; have O66 := Aside0.mk (Kd.R_mono (ok' := fun _ => True) R_ (fun _ _ => trivial)); have HB16 := Aside0.mk b_; clear R_ b_ k_ ho_))
  go_ret2
  exact ⟨_, rfl, O66.out, HB16.out⟩

/-! ### impl_number: function 84 -/
def impl_number.l0 : Nat → List Int → Int → Int → Int → Option (Int)
  | 0, _, _, _, _ => none
  | k + 1, x0, x1, x7, x8 => if x8 ≥ 0 then (if 0 ≤ (wrap64 (x1 + x8)) then (if (wrap64 (x1 + x8)) < (x0.length : Int) then (impl_number.l0 k x0 x1 (Go.bits .or .u64 (IntKind.u64.wrap (x7 * 256)) (IntKind.u64.wrap (rd x0 (wrap64 (x1 + x8))))) (wrap64 (x8 - 1))) else (none)) else (none)) else (some (wrap64 (x7)))
def impl_number.f (k : Nat) (l0 : List Int) (a1 : Int) (a2 : Int) : Option (Int) := impl_number.l0 k l0 a1 0 (wrap64 (a2 - 1))
theorem impl_number.mono_l : ∀ k, (∀ y0 y1 y2 y3, LeO (impl_number.l0 k y0 y1 y2 y3) (impl_number.l0 (k + 1) y0 y1 y2 y3))
  | 0 => fun _ _ _ _ r h => by simp [impl_number.l0] at h
  | k + 1 => by
    have ih0 := impl_number.mono_l k
    · intro y0 y1 y2 y3
      unfold impl_number.l0
      repeat' first
      | (with_reducible exact ih0 _ _ _ _)
      | (with_reducible exact LeO.refl _)
      | (with_reducible exact LeO.none _)
      | (with_reducible refine LeO.ite ?_ ?_)
      | (with_reducible refine LeO.bind ?_ (fun _ => ?_))
      | exact ih0 _ _ _ _
      | exact LeO.none _
      | refine LeO.ite ?_ ?_
      | refine LeO.bind ?_ (fun _ => ?_)
theorem impl_number.mono : ∀ a0 a1 a2 k, LeO (impl_number.f k a0 a1 a2) (impl_number.f (k + 1) a0 a1 a2) := by
  intro a0 a1 a2 k
  have ih0 := impl_number.mono_l k
  unfold impl_number.f
  repeat' first
      | (with_reducible exact ih0 _ _ _ _)
      | (with_reducible exact LeO.refl _)
      | (with_reducible exact LeO.none _)
      | (with_reducible refine LeO.ite ?_ ?_)
      | (with_reducible refine LeO.bind ?_ (fun _ => ?_))
      | exact ih0 _ _ _ _
      | exact LeO.none _
      | refine LeO.ite ?_ ?_
      | refine LeO.bind ?_ (fun _ => ?_)
set_option maxHeartbeats 8000000 in
set_option maxRecDepth 100000 in
theorem impl_number.calls (k : Nat) (A0 : Option Addr) (c0 : Nat) (l0 : List Int) (a1 : Int) (a2 : Int) (r : Int) (w : World) (hr0 : Kd.C (Kd.int .u8) w A0 l0.length l0) (hc0 : l0.length ≤ c0) (h : impl_number.f k l0 a1 a2 = some r) :
    Calls Tryd.prog 84 #[.slice A0 l0.length c0, .int .i64 a1, .int .i64 a2] w fun e w' => e = .returned (.int .i64 r) ∧ Drawn0 w w' := by
  have HR0 := Aside0.mk hr0
  have HC0 := Aside0.mk hc0
  clear hr0 hc0
  have H : (impl_number.l0 k l0 a1 0 (wrap64 (a2 - 1))) = some r := h
  clear h
  have H' := Aside0.mk H
  clear H
  go_enter Tryd.func84, Tryd.ntmps84
  go_wp2
  go_loopg [7, 8] k (fun kq v7 v8 w' => ∃ (x7_1 : Int) (x8_1 : Int), v7 = .int .u64 x7_1 ∧ v8 = .int .i64 x8_1 ∧ Aside0 (impl_number.l0 kq l0 a1 x7_1 x8_1 = some r) ∧ Aside0 (kq ≤ k) ∧ Drawn0 w w')
  case atStart => exact ⟨(0), (wrap64 (a2 - 1)), (by first | rfl | (simp; done) | (simp [*]; done)), (by first | rfl | (simp; done) | (simp [*]; done)), H', ⟨Nat.le_refl _⟩, by repeat (first | exact Drawn0.refl _ | apply Drawn0.step)⟩
  case round =>
    clear H'
    try clear p2
    obtain ⟨x7_1, x8_1, rfl, rfl, HA, HK1, ⟨m1, rfl⟩⟩ := hrel
    cases gk with
    | zero => exact absurd HA.out (by simp [impl_number.l0])
    | succ k1 =>
      have H := HA.out
      clear HA
      simp only [impl_number.l0] at H
      by_cases c4 : x8_1 ≥ 0
      · rw [if_pos c4] at H
        have c4b0 : decide (0 ≤ x8_1) = true := decide_eq_true c4
        clear c4
        obtain ⟨ji5, hji5⟩ : ∃ j_ : Int, (wrap64 (a1 + x8_1)) = j_ := ⟨_, rfl⟩
        replace H : (if 0 ≤ (ji5) then (if (ji5) < (l0.length : Int) then (impl_number.l0 k1 l0 a1 (Go.bits .or .u64 (IntKind.u64.wrap (x7_1 * 256)) (IntKind.u64.wrap (rd l0 (ji5)))) (wrap64 (x8_1 - 1))) else (none)) else (none)) = some r := by first | (rw [hji5] at H; exact H) | (simp only [hji5] at H ⊢; exact H)
        have hji5w : (IntKind.i64.wrap (a1 + x8_1)) = ji5 := (i64_w _).trans hji5
        by_cases c6 : 0 ≤ (ji5)
        · rw [if_pos c6] at H
          have c6b0 : decide (0 ≤ (ji5)) = true := decide_eq_true c6
          clear c6
          by_cases c7 : (ji5) < (l0.length : Int)
          · rw [if_pos c7] at H
            have c7b0 : decide ((ji5) < (l0.length : Int)) = true := decide_eq_true c7
            clear c7
            have H' := Aside0.mk H
            clear H
            have p153 : 0 ≤ ((ji5) : Int) := of_decide_eq_true (by first | (with_reducible assumption) | assumption)
            have q153 : (ji5) < (l0.length : Int) := of_decide_eq_true (by first | (with_reducible assumption) | assumption)
            obtain ⟨ad153, e153, hx153_0⟩ := Kd.at_int HR0.out (ji5) p153 q153
            cases e153
            replace p153 := eq_true p153
            replace q153 := eq_true q153
            go_wp2
            go_roundg k1
            case measure => have := HK1.out; omega
            case rel => exact ⟨(Go.bits .or .u64 (IntKind.u64.wrap (x7_1 * 256)) (IntKind.u64.wrap (rd l0 (ji5)))), (wrap64 (x8_1 - 1)), (by first | rfl | (simp; done) | (simp only [← hji5] <;> (first | rfl | simp)) | (simp [*]; done)), (by first | rfl | (simp; done) | (simp [*]; done)), H', ⟨by have := HK1.out; omega⟩, by repeat (first | exact Drawn0.refl _ | apply Drawn0.step)⟩
          · rw [if_neg c7] at H
            exact absurd H (by simp)
        · rw [if_neg c6] at H
          exact absurd H (by simp)
      · rw [if_neg c4] at H
        have c4b0 : decide (0 ≤ x8_1) = false := decide_eq_false c4
        clear c4
        obtain rfl := Option.some.inj H
        go_wp2
        go_ret
        exact ⟨by first | rfl | (simp; done) | (simp [*]; done), by repeat (first | exact Drawn0.refl _ | apply Drawn0.step)⟩

open Go.Proofs.YtkghgjehjchajaaDoorW Go.Proofs.YtkghgjehjchajaaDoorW.PrintHand Go.Proofs.YtkghgjehjchajaaDoorW.PrintHx
/-! ### impl_getRoot: function 85 -/
open Go.Proofs.YtkghgjehjchajaaDoorW.PrintLe Go.Proofs.YtkghgjehjchajaaDoorW.PrintGrow Go.Proofs.YtkghgjehjchajaaDoorW.PrintDec Go.Proofs.YtkghgjehjchajaaDoorW.PrintRaw
theorem number_l0 (x0 c : List Int) (at_ : Nat) (hb : Byt c) (h8 : c.length ≤ 8) (hat : at_ + c.length ≤ x0.length) (hc : ∀ j, j < c.length → x0.getD (at_ + j) 0 = c.getD j 0) (hx : x0.length ≤ 1048576) : ∀ (n k : Nat), n ≤ c.length → n < k → impl_number.l0 k x0 (at_ : Int) (le (c.drop n)) ((n : Int) - 1) = some (wrap64 (le c))
  | 0, k, h1, h2 => by
    obtain ⟨k, rfl⟩ := sucK h2
    simp only [impl_number.l0]
    rw [List.drop_zero, if_neg (by omega)]
  | n + 1, k, h1, h2 => by
    obtain ⟨k, rfl⟩ := sucK h2
    have hn : n < c.length := by omega
    have hd := List.drop_eq_getElem_cons hn
    have hxn := hb c[n] (List.getElem_mem hn)
    have h0 := le_nonneg (hb.drop (n + 1))
    have hlt := le_lt (hb.drop (n + 1))
    rw [List.length_drop] at hlt
    have h7 : le (c.drop (n + 1)) < 256 ^ 7 := Int.lt_of_lt_of_le hlt (p256_le (by omega))
    have e1 : wrap64 ((at_ : Int) + (((n + 1 : Nat) : Int) - 1)) = ((at_ + n : Nat) : Int) := by unfold wrap64; omega
    have hr : rd x0 ((at_ + n : Nat) : Int) = c[n] := by rw [rdN, hc n hn, List.getD_eq_getElem?_getD, List.getElem?_eq_getElem hn]; rfl
    simp only [impl_number.l0]
    rw [e1, if_pos (by omega), if_pos (by omega), if_pos (by omega), hr]
    have hv : Go.bits .or .u64 (IntKind.u64.wrap (le (c.drop (n + 1)) * 256)) (IntKind.u64.wrap c[n]) = le (c.drop n) := by
      rw [wraps_u64 _ (by omega) (by omega), wraps_u64 _ (by omega) (by omega), bits_join .u64 64 (by decide) wraps_u64 8 _ _ (by omega) (by omega) (by omega) (by omega) (by omega) (by omega), hd]
      simp only [le]
      omega
    rw [hv, show wrap64 (((n + 1 : Nat) : Int) - 1 - 1) = (n : Int) - 1 by unfold wrap64; omega]
    exact number_l0 x0 c at_ hb h8 hat hc hx n k (by omega) (by omega)
/-- number: what bytes at a place say -/
theorem number_f (x0 : List Int) (at_ size : Nat) (hb : Byt x0) (h8 : size ≤ 8) (hat : at_ + size ≤ x0.length) (hx : x0.length ≤ 1048576) (k : Nat) (hk : 8 < k) : impl_number.f k x0 (at_ : Int) (size : Int) = some (wrap64 (le ((x0.drop at_).take size))) := by
  unfold impl_number.f
  have hl : ((x0.drop at_).take size).length = size := by rw [List.length_take, List.length_drop]; omega
  have h := number_l0 x0 ((x0.drop at_).take size) at_ ((hb.drop _).take _) (by omega) (by omega) (fun j hj => by
    rw [List.getD_eq_getElem?_getD, List.getD_eq_getElem?_getD, List.getElem?_take, List.getElem?_drop, if_pos (by omega)]) hx size k (by omega) (by omega)
  rw [List.drop_eq_nil_of_le (by omega)] at h
  rw [show wrap64 ((size : Int) - 1) = (size : Int) - 1 by unfold wrap64; omega]
  exact h
def impl_getRoot.f (l0 : List Int) : Option (List Int) := if (64 ≤ l0.length ∧ l0.length ≤ 1048576) ∧ (∀ x ∈ l0, 0 ≤ x ∧ x ≤ 255) then some (rootB l0) else none
set_option maxHeartbeats 8000000 in
set_option maxRecDepth 100000 in
theorem impl_getRoot.calls (A0 : Option Addr) (c0 : Nat) (l0 : List Int) (r : List Int) (w : World) (hr0 : Kd.C (Kd.int .u8) w A0 l0.length l0) (hc0 : l0.length ≤ c0) (h : impl_getRoot.f l0 = some r) :
    Calls Tryd.prog 85 #[.slice A0 l0.length c0] w fun e w' => e = .returned (.agg (nums .i64 r).toArray) ∧ Below w.heap.size w w' := by
  unfold impl_getRoot.f at h
  by_cases hdom : (64 ≤ l0.length ∧ l0.length ≤ 1048576) ∧ (∀ x ∈ l0, 0 ≤ x ∧ x ≤ 255)
  case neg => rw [if_neg hdom] at h; cases h
  rw [if_pos hdom] at h
  obtain rfl := Option.some.inj h
  have HL := Aside0.mk hdom.1
  have HBY : Aside0 (Byt l0) := ⟨hdom.2⟩
  have HR0 := Aside0.mk hr0
  have HC0 := Aside0.mk hc0
  clear h hdom hr0 hc0
  have Z31 : ∀ w, (zeroValue 31).run Tryd.prog w = .ok (.agg (nums .i64 (List.replicate 15 0)).toArray) w := fun _ => by kernel_rfl
  obtain ⟨g0, hg0⟩ : ∃ g, g = wrap64 (le (seg l0 0 8)) := ⟨_, rfl⟩
  have Eg0 := Aside0.mk (show impl_number.f 20 l0 0 8 = some g0 by rw [hg0]; exact number_f l0 0 8 HBY.out (by decide) (by have := HL.out; omega) (by have := HL.out; omega) 20 (by decide))
  obtain ⟨g1, hg1⟩ : ∃ g, g = wrap64 (le (seg l0 56 4)) := ⟨_, rfl⟩
  have Eg1 := Aside0.mk (show impl_number.f 20 l0 56 4 = some g1 by rw [hg1]; exact number_f l0 56 4 HBY.out (by decide) (by have := HL.out; omega) (by have := HL.out; omega) 20 (by decide))
  obtain ⟨g2, hg2⟩ : ∃ g, g = wrap64 (le (seg l0 60 4)) := ⟨_, rfl⟩
  have Eg2 := Aside0.mk (show impl_number.f 20 l0 60 4 = some g2 by rw [hg2]; exact number_f l0 60 4 HBY.out (by decide) (by have := HL.out; omega) (by have := HL.out; omega) 20 (by decide))
  obtain ⟨ds, hds⟩ : ∃ d, d = rootVals l0 := ⟨_, rfl⟩
  have DL := Aside0.mk (show ds.length = 12 by rw [hds]; exact rootVals_length l0)
  have EGJ := Aside0.mk (show ∀ j : Nat, j < 12 → impl_number.f 20 l0 ((8 + 4 * j : Nat) : Int) 4 = some (ds.getD j 0) from fun j hj => by rw [hds, rootVals_get l0 j hj, ← wrap4 (seg_byt HBY.out _ _) (by rw [seg_le _ _ (by have := HL.out; omega)]; decide)]; exact number_f l0 (8 + 4 * j) 4 HBY.out (by decide) (by have := HL.out; omega) (by have := HL.out; omega) 20 (by decide))
  have hres : rootB l0 = g0 :: (ds ++ [g1, g2]) := by rw [hg0, hg1, hg2, hds, wrap4 (seg_byt HBY.out 56 4) (by rw [seg_le _ _ (by have := HL.out; omega)]; decide), wrap4 (seg_byt HBY.out 60 4) (by rw [seg_le _ _ (by have := HL.out; omega)]; decide)]; rfl
  rw [hres]
  clear hres hg0 hg1 hg2 hds
  have HB0 : Aside0 (Below w.heap.size w w) := ⟨Below.refl _ _⟩
  obtain ⟨s0, Sz0⟩ : ∃ s0, Aside0 (w.heap.size = s0) := ⟨_, ⟨rfl⟩⟩
  have hw0 : w.heap.size ≤ s0 := Nat.le_of_eq Sz0.out
  have hw1 : s0 ≤ w.heap.size := Nat.le_of_eq Sz0.out.symm
  go_enter Tryd.func85, Tryd.ntmps85
  go_wp2_with (first | ((with_reducible refine gate_dst (N := 2) rfl ?_); refine hx_alloc rfl 2 rfl 31 rfl Sz0 (.agg (nums .i64 (List.replicate 15 0)).toArray) (nums .i64 (List.replicate 15 0)).toArray Z31 rfl ?_; intro w1 s1 Ls1 Ss1 b_ g_; have H2_1 := Aside0.mk g_; have HB1 := Aside0.mk (below_then HB0.out HB0.out.size b_); clear b_ g_ HB0) | ((with_reducible refine gate_dst (N := 6) rfl ?_); refine goesL_ (some 6) rfl rfl Tryd.func84 (by kernel_rfl) rfl #[.slice A0 l0.length c0, .int .i64 0, .int .i64 8] rfl (by (try simp only [List.map_toArray, List.map_cons, List.map_nil]); first | done | rfl) ?_; refine (impl_number.calls 20 A0 c0 l0 0 8 g0 _ (Kd.C_below HR0.out HB1.out) HC0.out Eg0.out).mono ?_; rintro e_ w2 ⟨rfl, d_⟩; refine ⟨_, rfl, ?_⟩; have b_ := kept_drawn d_; have H2_2 := Aside0.mk (blk_below H2_1.out b_); have HB2 := Aside0.mk (below_then HB1.out HB1.out.size b_); clear b_ d_ H2_1 HB1) | ((with_reducible refine gate_dst (N := 8) rfl ?_); refine goesL_ (some 8) rfl rfl Tryd.func84 (by kernel_rfl) rfl #[.slice A0 l0.length c0, .int .i64 56, .int .i64 4] rfl (by (try simp only [List.map_toArray, List.map_cons, List.map_nil]); first | done | rfl) ?_; refine (impl_number.calls 20 A0 c0 l0 56 4 g1 _ (Kd.C_below HR0.out HB2.out) HC0.out Eg1.out).mono ?_; rintro e_ w3 ⟨rfl, d_⟩; refine ⟨_, rfl, ?_⟩; have b_ := kept_drawn d_; have H2_3 := Aside0.mk (blk_below H2_2.out b_); have HB3 := Aside0.mk (below_then HB2.out HB2.out.size b_); clear b_ d_ H2_2 HB2) | ((with_reducible refine gate_dst (N := 10) rfl ?_); refine goesL_ (some 10) rfl rfl Tryd.func84 (by kernel_rfl) rfl #[.slice A0 l0.length c0, .int .i64 60, .int .i64 4] rfl (by (try simp only [List.map_toArray, List.map_cons, List.map_nil]); first | done | rfl) ?_; refine (impl_number.calls 20 A0 c0 l0 60 4 g2 _ (Kd.C_below HR0.out HB3.out) HC0.out Eg2.out).mono ?_; rintro e_ w4 ⟨rfl, d_⟩; refine ⟨_, rfl, ?_⟩; have b_ := kept_drawn d_; have H2_4 := Aside0.mk (blk_below H2_3.out b_); have HB4 := Aside0.mk (below_then HB3.out HB3.out.size b_); have hz_ := (blk_lt H2_4.out); obtain ⟨s4, Ss4⟩ : ∃ s, Aside0 (w4.heap.size = s) := ⟨_, ⟨rfl⟩⟩; rw [Ss4.out] at hz_; clear b_ d_ H2_3 HB3) | ((with_reducible refine gate_dst (N := 3) rfl ?_); refine hx_alloc rfl 3 rfl 31 rfl Ss4 (.agg (nums .i64 (List.replicate 15 0)).toArray) (nums .i64 (List.replicate 15 0)).toArray Z31 rfl ?_; intro w5 s5 Ls5 Ss5 b_ g_; have HG5 := Aside0.mk g_; have HB5 := Aside0.mk (below_then HB4.out HB4.out.size b_); have H2_5 := Aside0.mk (blk_below H2_4.out b_); clear b_ g_ HB4 H2_4) | ((with_reducible refine gate_store (t := 31) (p := 3) (v := .tmp 11) rfl ?_); refine hx_store rfl rfl 31 (.tmp 3) (.tmp 11) rfl s4 15 rfl (nums .i64 (g0 :: (filled ds 0 ++ [g1, g2]))).toArray rfl (by kernel_rfl) (nums_size _ _ _ (filled_length DL.out 0 (by decide) _ _ _)) (nums_one _ _) HG5.out (by simp [nums]) ?_; intro w6 t_ gg_; have HG6 := Aside0.mk gg_; have H2_6 := Aside0.mk (t_.keep (show s0 ≠ s4 by omega) H2_5.out); have HB6 := Aside0.mk (t_.below HB5.out (by omega)); clear t_ gg_ HG5 HB5 H2_5))
  (try simp only [Act.put, List.setIfInBounds_toArray, List.set_cons_succ, List.set_cons_zero])
  go_loopw [4, 12] (fun v4 v15 wr => ∃ (j : Nat) (u : Value), u = v4 ∧ v15 = .int .i64 (j : Int) ∧ Aside0 (j ≤ 12) ∧ Aside0 (wr.heap[s4]? = some (.cells (nums .i64 (g0 :: (filled ds j ++ [g1, g2]))).toArray 31 (0, 0))) ∧ Aside0 (wr.heap[s0]? = some (.cells (nums .i64 (List.replicate 15 0)).toArray 31 (0, 0))) ∧ Aside0 (Below w.heap.size w wr)) (fun _ v15 _ => 12 - (intOf v15).toNat)
  case atStart => exact ⟨0, _, rfl, rfl, ⟨by omega⟩, HG6, H2_6, HB6⟩
  case round =>
    clear HG6 H2_6 HB6
    obtain ⟨j, v4, rfl, rfl, hj, HG, H2, HB⟩ := hrel
    by_cases c9 : j < 12
    · have c9b0 : decide ((j : Int) < 12) = true := decide_eq_true (by omega)
      have c9b1 : decide (j < 12) = true := decide_eq_true c9
      have e8 : wrap64 (8 + wrap64 (4 * (j : Int))) = ((8 + 4 * j : Nat) : Int) := at8 8 j (by decide) (by omega)
      obtain ⟨dv, hdv⟩ : ∃ d, d = ds.getD j 0 := ⟨_, rfl⟩
      have EGz := Aside0.mk (show impl_number.f 20 l0 (wrap64 (8 + wrap64 (4 * (j : Int)))) 4 = some dv by rw [e8, hdv]; exact EGJ.out j c9)
      have HDV := Aside0.mk hdv
      have C9 := Aside0.mk c9
      have q9 : (0 ≤ (j : Int)) = True := eq_true (by omega)
      have q10 : ((j : Int) < 12) = True := eq_true (by omega)
      have q11 : (j < 12) = True := eq_true c9
      clear hdv c9 e8
      go_wp2_with (first | ((with_reducible refine gate_dst (N := 20) rfl ?_); refine goesL_ (some 20) rfl rfl Tryd.func84 (by kernel_rfl) rfl #[.slice A0 l0.length c0, .int .i64 (wrap64 (8 + wrap64 (4 * (j : Int)))), .int .i64 4] rfl (by (try simp only [List.map_toArray, List.map_cons, List.map_nil]); first | done | rfl) ?_; refine (impl_number.calls 20 A0 c0 l0 _ _ dv _ (Kd.C_below HR0.out HB.out) HC0.out EGz.out).mono ?_; rintro e_ w7 ⟨rfl, d_⟩; refine ⟨_, rfl, ?_⟩; have b_ := kept_drawn d_; have HG5 := Aside0.mk (blk_below HG.out b_); have H25 := Aside0.mk (blk_below H2.out b_); have HB5 := Aside0.mk (below_then HB.out HB.out.size b_); clear b_ d_ HG H2 HB) | ((with_reducible refine gate_store (t := 3) (p := 22) (v := .tmp 20) rfl ?_); refine st_num rfl rfl 3 (.tmp 22) (.tmp 20) rfl s4 (1 + j) .i64 dv rfl rfl (by kernel_rfl) HG5.out (by rw [filled_length DL.out j (by have := C9.out; omega)]; have := C9.out; omega) ?_; intro w8 t_ gg_; have HG6 := Aside0.mk gg_; have H26 := Aside0.mk (t_.keep (show s0 ≠ s4 by omega) H25.out); have HB6 := Aside0.mk (t_.below HB5.out (by omega)); clear t_ gg_ HG5 H25 HB5))
      go_roundw
      case rel =>
        refine ⟨j + 1, _, rfl, by rw [show wrap64 ((j : Int) + 1) = ((j + 1 : Nat) : Int) by (have := C9.out; unfold wrap64; omega)], ⟨by have := C9.out; omega⟩, ⟨?_⟩, H26, HB6⟩
        have h_ := HG6.out
        rw [HDV.out, filled_next DL.out j C9.out] at h_
        exact h_
      case measure =>
        rw [show wrap64 ((j : Int) + 1) = ((j + 1 : Nat) : Int) by (have := C9.out; unfold wrap64; omega)]
        simp only [intOf, Int.toNat_natCast]
        have := C9.out
        omega
    · obtain rfl : j = 12 := by have := hj.out; omega
      have c9b0 : decide ((12 : Int) < 12) = false := by decide
      have hf := HG.out
      rw [filled_all DL.out] at hf
      have HF := Aside0.mk hf
      clear c9 hf HG
      go_wp2_with (first | ((with_reducible refine gate_dst (N := 24) rfl ?_); refine hx_load rfl 31 (.tmp 3) rfl s4 15 rfl Tryd.underlying31 rfl (by kernel_rfl) HF.out (by simp [nums, DL.out]) ?_) | ((with_reducible refine gate_store (t := 31) (p := 2) (v := .tmp 24) rfl ?_); refine hx_store rfl rfl 31 (.tmp 2) (.tmp 24) rfl s0 15 rfl (nums .i64 (g0 :: (ds ++ [g1, g2]))).toArray rfl (by kernel_rfl) (by simp [nums, DL.out]) (nums_one _ _) H2.out (by simp [nums]) ?_; intro w7 t_ gg_; have HR7 := Aside0.mk gg_; have HB7 := Aside0.mk (t_.below HB.out (by omega)); clear t_ gg_))
      exact bodyPost_ret (results_cell_row rfl _ _ s0 31 _ (0, 0) _ rfl HR7.out Tryd.underlying31 rfl (by rw [nums_size _ _ 15 (by simp [DL.out])]; kernel_rfl)) rfl ⟨rfl, HB7.out⟩

end Go.Proofs.YtkghgjehjchajaaDoor.PFnExactDecodeSnap
