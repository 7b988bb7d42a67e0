/- PFnExactSnapshotsx6: functions of the law, walked; written by a program of this session. No condition. -/
import Derived.Test.YtknlpjoidjgciaaDoorQPFnExactSnapshotsx0
import Derived.Test.YtknlpjoidjgciaaDoorQPFnExactSnapshotsx1
import Derived.Test.YtknlpjoidjgciaaDoorQPFnExactSnapshotsx2
import Derived.Test.YtknlpjoidjgciaaDoorQPFnExactSnapshotsx5
namespace Go.Proofs.YtknlpjoidjgciaaDoor.PFnExactSnapshots
open Go.RowKit Go.Proofs.YtknlpjoidjgciaaDoorW.PrintWords Go.Proofs.YtknlpjoidjgciaaDoorW.PrintLast Go.Proofs.YtknlpjoidjgciaaDoorW.PrintMore
attribute [local go_sem] max2_int min2_int max_two min_two max_three min_three max_four min_four
set_option linter.unusedVariables false
set_option linter.unusedSimpArgs false
open Go.Proofs.YtknlpjoidjgciaaDoorW Go.Proofs.YtknlpjoidjgciaaDoorW.PrintHand Go.Proofs.YtknlpjoidjgciaaDoorW.PrintHx
open Go.Proofs.YtknlpjoidjgciaaDoorW.PrintLe Go.Proofs.YtknlpjoidjgciaaDoorW.PrintGrow Go.Proofs.YtknlpjoidjgciaaDoorW.PrintDec Go.Proofs.YtknlpjoidjgciaaDoorW.PrintIno Go.Proofs.YtknlpjoidjgciaaDoorW.PrintTab2 Go.Proofs.YtknlpjoidjgciaaDoorW.PrintTab3 Go.Proofs.YtknlpjoidjgciaaDoorW.PrintFsi Go.Proofs.YtknlpjoidjgciaaDoorW.PrintFsb Go.Proofs.YtknlpjoidjgciaaDoorW.PrintFsd Go.Proofs.YtknlpjoidjgciaaDoorW.PrintCrc
def spec_DecodeFsinfo.f (l0 : List Int) : Option (List Int × Int) := if (∀ x ∈ l0, 0 ≤ x ∧ x ≤ 255) then some (decF (fsA l0) l0) else none
set_option maxHeartbeats 8000000 in
set_option maxRecDepth 100000 in
theorem spec_DecodeFsinfo.calls (A0 : Option Addr) (c0 : Nat) (l0 : List Int) (r1 : List Int) (r2 : Int) (w : World) (hr0 : Kd.C (Kd.int .u8) w A0 l0.length l0) (hc0 : l0.length ≤ c0) (h : spec_DecodeFsinfo.f l0 = some (r1, r2)) :
    Calls Tryd.prog 107 #[.slice A0 l0.length c0] w fun e w' => e = .returned (.tuple #[.agg (nums .i64 r1).toArray, .int .i64 r2]) ∧ Below w.heap.size w w' := by
  unfold spec_DecodeFsinfo.f at h
  by_cases hdom : ∀ x ∈ l0, 0 ≤ x ∧ x ≤ 255
  case neg => rw [if_neg hdom] at h; cases h
  rw [if_pos hdom] at h
  replace h := Option.some.inj h
  have HBY : Aside0 (Byt l0) := ⟨hdom⟩
  have HR0 := Aside0.mk hr0
  have HC0 := Aside0.mk hc0
  clear hdom hr0 hc0
  have Z127 : ∀ w, (zeroValue 127).run Tryd.prog w = .ok (.agg (nums .i64 (List.replicate 68 0)).toArray) w := fun _ => by kernel_rfl
  have HB0 : Aside0 (Below w.heap.size w w) := ⟨Below.refl _ _⟩
  obtain ⟨s0, Sz0⟩ : ∃ s0, Aside0 (w.heap.size = s0) := ⟨_, ⟨rfl⟩⟩
  have hw0 : w.heap.size ≤ s0 := Nat.le_of_eq Sz0.out
  have hw1 : s0 ≤ w.heap.size := Nat.le_of_eq Sz0.out.symm
  by_cases hl : l0.length = 512
  case neg =>
    have hd : decF (fsA l0) l0 = (List.replicate 68 0, 21) := by unfold decF; rw [if_neg (fun h_ => hl h_.1)]
    rw [hd] at h
    simp only [Prod.mk.injEq] at h
    obtain ⟨rfl, rfl⟩ := h
    clear hd
    have k0 : ((l0.length : Int) != 512) = true := bne_iff_ne.2 (by omega)
    clear hl
    go_enter Tryd.func107, Tryd.ntmps107
    go_wp2_with (first | ((with_reducible refine gate_dst (N := 2) rfl ?_); refine hx_alloc rfl 2 rfl 127 rfl Sz0 (.agg (nums .i64 (List.replicate 68 0)).toArray) (nums .i64 (List.replicate 68 0)).toArray Z127 rfl ?_; intro w1 s1 Ls1 Ss1 b_ g_; have H2 := Aside0.mk g_; have HB1 := Aside0.mk (below_then HB0.out HB0.out.size b_); clear b_ g_ HB0) | ((with_reducible refine gate_store (t := 127) (p := 2) (v := .tmp 11) rfl ?_); refine hx_store rfl rfl 127 (.tmp 2) (.tmp 11) rfl s0 68 rfl (nums .i64 (List.replicate 68 0)).toArray rfl (by kernel_rfl) (by kernel_rfl) (nums_one _ _) H2.out (by simp [nums]) ?_; intro we t_ gg_; have HE := Aside0.mk gg_; have HEB := Aside0.mk (t_.below HB1.out (by omega)); clear t_ gg_ H2 HB1 ))
    exact bodyPost_ret (results_ct rfl _ _ s0 127 (nums .i64 (List.replicate 68 0)).toArray (0, 0) _ rfl HE.out Tryd.underlying127 rfl (by kernel_rfl)) rfl ⟨rfl, HEB.out⟩
  have k0 : ((l0.length : Int) != 512) = false := by rw [hl]; rfl
  have HL := Aside0.mk hl
  clear hl
  have info5_ : (Tryd.prog.info? 5).map (fun i => (i.zero, i.size, i.bytes)) = some (some (.int .u8 0), 1, 1) := by kernel_rfl
  obtain ⟨i0_, hi0_, _, hsz_, _⟩ := info_parts info5_
  obtain ⟨A13, hcut13, hA13, hC13⟩ := print_mid_of (P := Tryd.prog) (Value.int .u8) 0 22 5 .i64 .i64 Tryd.underlying22 hi0_ hsz_ A0 c0 l0 (8 : Int) (16 : Int) (by decide) (by decide) (by rw [HL.out]; decide) HC0.out
  obtain ⟨q13, hq13⟩ : ∃ q, q = (l0.take (16 : Int).toNat).drop (8 : Int).toNat := ⟨_, rfl⟩
  rw [← hq13] at hcut13 hA13 hC13
  obtain ⟨k13, hk13⟩ : ∃ k, k = c0 - (8 : Int).toNat := ⟨_, rfl⟩
  rw [← hk13] at hcut13 hC13
  clear hk13
  have hs13 : q13 = seg l0 8 8 := by rw [hq13]; exact take_drop l0 8 16
  have HR13 := Aside0.mk (Kd.C_of_reads (h1 := fun _ => rfl) (hA13 _ (Kd.reads_of_C HR0.out)))
  have HC13 := Aside0.mk hC13
  obtain ⟨g0, hg0⟩ : ∃ g, g = gcap (seg l0 8 8) := ⟨_, rfl⟩
  have EG13 := Aside0.mk (show spec_l02Get.f 20 q13 = some g0 by rw [hg0, hs13]; exact get_f (seg l0 8 8) (seg_byt HBY.out _ _) (by rw [seg_le _ _ (by rw [HL.out]; decide)]; decide) 20 (by decide))
  clear hs13 hq13 hA13 hC13
  obtain ⟨A16, hcut16, hA16, hC16⟩ := print_mid_of (P := Tryd.prog) (Value.int .u8) 0 22 5 .i64 .i64 Tryd.underlying22 hi0_ hsz_ A0 c0 l0 (16 : Int) (20 : Int) (by decide) (by decide) (by rw [HL.out]; decide) HC0.out
  obtain ⟨q16, hq16⟩ : ∃ q, q = (l0.take (20 : Int).toNat).drop (16 : Int).toNat := ⟨_, rfl⟩
  rw [← hq16] at hcut16 hA16 hC16
  obtain ⟨k16, hk16⟩ : ∃ k, k = c0 - (16 : Int).toNat := ⟨_, rfl⟩
  rw [← hk16] at hcut16 hC16
  clear hk16
  have hs16 : q16 = seg l0 16 4 := by rw [hq16]; exact take_drop l0 16 20
  have HR16 := Aside0.mk (Kd.C_of_reads (h1 := fun _ => rfl) (hA16 _ (Kd.reads_of_C HR0.out)))
  have HC16 := Aside0.mk hC16
  obtain ⟨g1, hg1⟩ : ∃ g, g = le (seg l0 16 4) := ⟨_, rfl⟩
  have EG16 := Aside0.mk (show spec_l02Get.f 20 q16 = some g1 by rw [hg1, hs16, ← gcap4 (seg_byt HBY.out _ _) (by rw [seg_le _ _ (by rw [HL.out]; decide)]; decide)]; exact get_f (seg l0 16 4) (seg_byt HBY.out _ _) (by rw [seg_le _ _ (by rw [HL.out]; decide)]; decide) 20 (by decide))
  clear hs16 hq16 hA16 hC16
  obtain ⟨A19, hcut19, hA19, hC19⟩ := print_mid_of (P := Tryd.prog) (Value.int .u8) 0 22 5 .i64 .i64 Tryd.underlying22 hi0_ hsz_ A0 c0 l0 (20 : Int) (24 : Int) (by decide) (by decide) (by rw [HL.out]; decide) HC0.out
  obtain ⟨q19, hq19⟩ : ∃ q, q = (l0.take (24 : Int).toNat).drop (20 : Int).toNat := ⟨_, rfl⟩
  rw [← hq19] at hcut19 hA19 hC19
  obtain ⟨k19, hk19⟩ : ∃ k, k = c0 - (20 : Int).toNat := ⟨_, rfl⟩
  rw [← hk19] at hcut19 hC19
  clear hk19
  have hs19 : q19 = seg l0 20 4 := by rw [hq19]; exact take_drop l0 20 24
  have HR19 := Aside0.mk (Kd.C_of_reads (h1 := fun _ => rfl) (hA19 _ (Kd.reads_of_C HR0.out)))
  have HC19 := Aside0.mk hC19
  obtain ⟨g2, hg2⟩ : ∃ g, g = le (seg l0 20 4) := ⟨_, rfl⟩
  have EG19 := Aside0.mk (show spec_l02Get.f 20 q19 = some g2 by rw [hg2, hs19, ← gcap4 (seg_byt HBY.out _ _) (by rw [seg_le _ _ (by rw [HL.out]; decide)]; decide)]; exact get_f (seg l0 20 4) (seg_byt HBY.out _ _) (by rw [seg_le _ _ (by rw [HL.out]; decide)]; decide) 20 (by decide))
  clear hs19 hq19 hA19 hC19
  obtain ⟨A22, hcut22, hA22, hC22⟩ := print_mid_of (P := Tryd.prog) (Value.int .u8) 0 22 5 .i64 .i64 Tryd.underlying22 hi0_ hsz_ A0 c0 l0 (24 : Int) (32 : Int) (by decide) (by decide) (by rw [HL.out]; decide) HC0.out
  obtain ⟨q22, hq22⟩ : ∃ q, q = (l0.take (32 : Int).toNat).drop (24 : Int).toNat := ⟨_, rfl⟩
  rw [← hq22] at hcut22 hA22 hC22
  obtain ⟨k22, hk22⟩ : ∃ k, k = c0 - (24 : Int).toNat := ⟨_, rfl⟩
  rw [← hk22] at hcut22 hC22
  clear hk22
  have hs22 : q22 = seg l0 24 8 := by rw [hq22]; exact take_drop l0 24 32
  have HR22 := Aside0.mk (Kd.C_of_reads (h1 := fun _ => rfl) (hA22 _ (Kd.reads_of_C HR0.out)))
  have HC22 := Aside0.mk hC22
  obtain ⟨g3, hg3⟩ : ∃ g, g = gcap (seg l0 24 8) := ⟨_, rfl⟩
  have EG22 := Aside0.mk (show spec_l02Get.f 20 q22 = some g3 by rw [hg3, hs22]; exact get_f (seg l0 24 8) (seg_byt HBY.out _ _) (by rw [seg_le _ _ (by rw [HL.out]; decide)]; decide) 20 (by decide))
  clear hs22 hq22 hA22 hC22
  obtain ⟨A25, hcut25, hA25, hC25⟩ := print_mid_of (P := Tryd.prog) (Value.int .u8) 0 22 5 .i64 .i64 Tryd.underlying22 hi0_ hsz_ A0 c0 l0 (32 : Int) (40 : Int) (by decide) (by decide) (by rw [HL.out]; decide) HC0.out
  obtain ⟨q25, hq25⟩ : ∃ q, q = (l0.take (40 : Int).toNat).drop (32 : Int).toNat := ⟨_, rfl⟩
  rw [← hq25] at hcut25 hA25 hC25
  obtain ⟨k25, hk25⟩ : ∃ k, k = c0 - (32 : Int).toNat := ⟨_, rfl⟩
  rw [← hk25] at hcut25 hC25
  clear hk25
  have hs25 : q25 = seg l0 32 8 := by rw [hq25]; exact take_drop l0 32 40
  have HR25 := Aside0.mk (Kd.C_of_reads (h1 := fun _ => rfl) (hA25 _ (Kd.reads_of_C HR0.out)))
  have HC25 := Aside0.mk hC25
  obtain ⟨g4, hg4⟩ : ∃ g, g = gcap (seg l0 32 8) := ⟨_, rfl⟩
  have EG25 := Aside0.mk (show spec_l02Get.f 20 q25 = some g4 by rw [hg4, hs25]; exact get_f (seg l0 32 8) (seg_byt HBY.out _ _) (by rw [seg_le _ _ (by rw [HL.out]; decide)]; decide) 20 (by decide))
  clear hs25 hq25 hA25 hC25
  obtain ⟨A28, hcut28, hA28, hC28⟩ := print_mid_of (P := Tryd.prog) (Value.int .u8) 0 22 5 .i64 .i64 Tryd.underlying22 hi0_ hsz_ A0 c0 l0 (40 : Int) (44 : Int) (by decide) (by decide) (by rw [HL.out]; decide) HC0.out
  obtain ⟨q28, hq28⟩ : ∃ q, q = (l0.take (44 : Int).toNat).drop (40 : Int).toNat := ⟨_, rfl⟩
  rw [← hq28] at hcut28 hA28 hC28
  obtain ⟨k28, hk28⟩ : ∃ k, k = c0 - (40 : Int).toNat := ⟨_, rfl⟩
  rw [← hk28] at hcut28 hC28
  clear hk28
  have hs28 : q28 = seg l0 40 4 := by rw [hq28]; exact take_drop l0 40 44
  have HR28 := Aside0.mk (Kd.C_of_reads (h1 := fun _ => rfl) (hA28 _ (Kd.reads_of_C HR0.out)))
  have HC28 := Aside0.mk hC28
  obtain ⟨g5, hg5⟩ : ∃ g, g = le (seg l0 40 4) := ⟨_, rfl⟩
  have EG28 := Aside0.mk (show spec_l02Get.f 20 q28 = some g5 by rw [hg5, hs28, ← gcap4 (seg_byt HBY.out _ _) (by rw [seg_le _ _ (by rw [HL.out]; decide)]; decide)]; exact get_f (seg l0 40 4) (seg_byt HBY.out _ _) (by rw [seg_le _ _ (by rw [HL.out]; decide)]; decide) 20 (by decide))
  clear hs28 hq28 hA28 hC28
  obtain ⟨A31, hcut31, hA31, hC31⟩ := print_mid_of (P := Tryd.prog) (Value.int .u8) 0 22 5 .i64 .i64 Tryd.underlying22 hi0_ hsz_ A0 c0 l0 (44 : Int) (48 : Int) (by decide) (by decide) (by rw [HL.out]; decide) HC0.out
  obtain ⟨q31, hq31⟩ : ∃ q, q = (l0.take (48 : Int).toNat).drop (44 : Int).toNat := ⟨_, rfl⟩
  rw [← hq31] at hcut31 hA31 hC31
  obtain ⟨k31, hk31⟩ : ∃ k, k = c0 - (44 : Int).toNat := ⟨_, rfl⟩
  rw [← hk31] at hcut31 hC31
  clear hk31
  have hs31 : q31 = seg l0 44 4 := by rw [hq31]; exact take_drop l0 44 48
  have HR31 := Aside0.mk (Kd.C_of_reads (h1 := fun _ => rfl) (hA31 _ (Kd.reads_of_C HR0.out)))
  have HC31 := Aside0.mk hC31
  obtain ⟨g6, hg6⟩ : ∃ g, g = le (seg l0 44 4) := ⟨_, rfl⟩
  have EG31 := Aside0.mk (show spec_l02Get.f 20 q31 = some g6 by rw [hg6, hs31, ← gcap4 (seg_byt HBY.out _ _) (by rw [seg_le _ _ (by rw [HL.out]; decide)]; decide)]; exact get_f (seg l0 44 4) (seg_byt HBY.out _ _) (by rw [seg_le _ _ (by rw [HL.out]; decide)]; decide) 20 (by decide))
  clear hs31 hq31 hA31 hC31
  obtain ⟨A34, hcut34, hA34, hC34⟩ := print_mid_of (P := Tryd.prog) (Value.int .u8) 0 22 5 .i64 .i64 Tryd.underlying22 hi0_ hsz_ A0 c0 l0 (48 : Int) (112 : Int) (by decide) (by decide) (by rw [HL.out]; decide) HC0.out
  obtain ⟨q34, hq34⟩ : ∃ q, q = (l0.take (112 : Int).toNat).drop (48 : Int).toNat := ⟨_, rfl⟩
  rw [← hq34] at hcut34 hA34 hC34
  obtain ⟨k34, hk34⟩ : ∃ k, k = c0 - (48 : Int).toNat := ⟨_, rfl⟩
  rw [← hk34] at hcut34 hC34
  clear hk34
  have hs34 : q34 = seg l0 48 64 := by rw [hq34]; exact take_drop l0 48 112
  have HR34 := Aside0.mk (Kd.C_of_reads (h1 := fun _ => rfl) (hA34 _ (Kd.reads_of_C HR0.out)))
  have HC34 := Aside0.mk hC34
  obtain ⟨ri, hri⟩ : ∃ g, g = rootA (seg l0 48 64) := ⟨_, rfl⟩
  have NRI := Aside0.mk (show ri.length = 15 by rw [hri]; exact rootOf_length _ _)
  have EG34 := Aside0.mk (show spec_l02RootOf.f q34 = some ri by rw [hri, hs34]; exact if_pos ⟨seg_le _ _ (by rw [HL.out]; decide), seg_byt HBY.out _ _⟩)
  clear hs34 hq34 hA34 hC34
  obtain ⟨A37, hcut37, hA37, hC37⟩ := print_mid_of (P := Tryd.prog) (Value.int .u8) 0 22 5 .i64 .i64 Tryd.underlying22 hi0_ hsz_ A0 c0 l0 (112 : Int) (176 : Int) (by decide) (by decide) (by rw [HL.out]; decide) HC0.out
  obtain ⟨q37, hq37⟩ : ∃ q, q = (l0.take (176 : Int).toNat).drop (112 : Int).toNat := ⟨_, rfl⟩
  rw [← hq37] at hcut37 hA37 hC37
  obtain ⟨k37, hk37⟩ : ∃ k, k = c0 - (112 : Int).toNat := ⟨_, rfl⟩
  rw [← hk37] at hcut37 hC37
  clear hk37
  have hs37 : q37 = seg l0 112 64 := by rw [hq37]; exact take_drop l0 112 176
  have HR37 := Aside0.mk (Kd.C_of_reads (h1 := fun _ => rfl) (hA37 _ (Kd.reads_of_C HR0.out)))
  have HC37 := Aside0.mk hC37
  obtain ⟨rm, hrm⟩ : ∃ g, g = rootA (seg l0 112 64) := ⟨_, rfl⟩
  have NRM := Aside0.mk (show rm.length = 15 by rw [hrm]; exact rootOf_length _ _)
  have EG37 := Aside0.mk (show spec_l02RootOf.f q37 = some rm by rw [hrm, hs37]; exact if_pos ⟨seg_le _ _ (by rw [HL.out]; decide), seg_byt HBY.out _ _⟩)
  clear hs37 hq37 hA37 hC37
  obtain ⟨ss, hss⟩ : ∃ s, s = snapsOf l0 := ⟨_, rfl⟩
  have HSS := Aside0.mk hss
  have HSL := Aside0.mk (show ss.length = 31 by rw [hss]; exact snapsOf_length l0)
  have BU : ∀ z y : List Int, z.length = 15 → y.length = 15 → ∀ w, (Instr.build 127 #[(0, .int .i64 g0), (1, .int .i64 g1), (2, .int .i64 g2), (3, .int .i64 g3), (4, .int .i64 g4), (5, .int .i64 g5), (6, .int .i64 g6), (7, .agg (nums .i64 z).toArray), (8, .agg (nums .i64 y).toArray)]).run Tryd.prog w = .ok (.agg (nums .i64 (g0 :: g1 :: g2 :: g3 :: g4 :: g5 :: g6 :: (z ++ y) ++ List.replicate 31 0)).toArray) w := by
    intro z y h k w_
    obtain ⟨x0, xb0, rfl, h0⟩ := cons_of_len h
    obtain ⟨x1, xb1, rfl, h1⟩ := cons_of_len h0
    obtain ⟨x2, xb2, rfl, h2⟩ := cons_of_len h1
    obtain ⟨x3, xb3, rfl, h3⟩ := cons_of_len h2
    obtain ⟨x4, xb4, rfl, h4⟩ := cons_of_len h3
    obtain ⟨x5, xb5, rfl, h5⟩ := cons_of_len h4
    obtain ⟨x6, xb6, rfl, h6⟩ := cons_of_len h5
    obtain ⟨x7, xb7, rfl, h7⟩ := cons_of_len h6
    obtain ⟨x8, xb8, rfl, h8⟩ := cons_of_len h7
    obtain ⟨x9, xb9, rfl, h9⟩ := cons_of_len h8
    obtain ⟨x10, xb10, rfl, h10⟩ := cons_of_len h9
    obtain ⟨x11, xb11, rfl, h11⟩ := cons_of_len h10
    obtain ⟨x12, xb12, rfl, h12⟩ := cons_of_len h11
    obtain ⟨x13, xb13, rfl, h13⟩ := cons_of_len h12
    obtain ⟨x14, xb14, rfl, h14⟩ := cons_of_len h13
    obtain ⟨y0, yb0, rfl, k0⟩ := cons_of_len k
    obtain ⟨y1, yb1, rfl, k1⟩ := cons_of_len k0
    obtain ⟨y2, yb2, rfl, k2⟩ := cons_of_len k1
    obtain ⟨y3, yb3, rfl, k3⟩ := cons_of_len k2
    obtain ⟨y4, yb4, rfl, k4⟩ := cons_of_len k3
    obtain ⟨y5, yb5, rfl, k5⟩ := cons_of_len k4
    obtain ⟨y6, yb6, rfl, k6⟩ := cons_of_len k5
    obtain ⟨y7, yb7, rfl, k7⟩ := cons_of_len k6
    obtain ⟨y8, yb8, rfl, k8⟩ := cons_of_len k7
    obtain ⟨y9, yb9, rfl, k9⟩ := cons_of_len k8
    obtain ⟨y10, yb10, rfl, k10⟩ := cons_of_len k9
    obtain ⟨y11, yb11, rfl, k11⟩ := cons_of_len k10
    obtain ⟨y12, yb12, rfl, k12⟩ := cons_of_len k11
    obtain ⟨y13, yb13, rfl, k13⟩ := cons_of_len k12
    obtain ⟨y14, yb14, rfl, k14⟩ := cons_of_len k13
    obtain rfl := List.length_eq_zero_iff.mp h14
    obtain rfl := List.length_eq_zero_iff.mp k14
    exact run_build w_ 127 _ _ (by kernel_rfl)
  replace BU := BU ri rm NRI.out NRM.out
  obtain ⟨tp, htp⟩ : ∃ t, t = g0 :: g1 :: g2 :: g3 :: g4 :: g5 :: g6 :: (ri ++ rm) := ⟨_, rfl⟩
  have hres : fsA l0 = tp ++ ss := by rw [htp, hss, hg0, hg1, hg2, hg3, hg4, hg5, hg6, hri, hrm]; rfl
  have HTL := Aside0.mk (show tp.length = 37 by rw [htp]; simp [NRI.out, NRM.out])
  obtain ⟨ra, hra⟩ : ∃ a, a = tp ++ List.replicate 31 0 := ⟨_, rfl⟩
  have hra2 : ra = g0 :: g1 :: g2 :: g3 :: g4 :: g5 :: g6 :: (ri ++ rm) ++ List.replicate 31 0 := by rw [hra, htp]
  rw [← hra2] at BU
  have BU_ := Aside0.mk BU
  have NA := Aside0.mk (show ra.length = 68 by rw [hra, List.length_append, HTL.out]; rfl)
  have HRA := Aside0.mk (show fsUp tp ss 0 = ra by rw [hra]; exact fsUp_zero)
  obtain ⟨rz, hrz⟩ : ∃ a, a = tp ++ ss := ⟨_, rfl⟩
  rw [hres, ← hrz] at h
  have NL := Aside0.mk (show rz.length = 68 by rw [hrz, List.length_append, HTL.out, HSL.out])
  have HRZ := Aside0.mk hrz
  clear BU hra hra2 hrz hres htp hss hri hrm hg0 hg1 hg2 hg3 hg4 hg5 hg6
  go_enter Tryd.func107, Tryd.ntmps107
  go_wp2_with (first | ((with_reducible refine gate_dst (N := 2) rfl ?_); refine hx_alloc rfl 2 rfl 127 rfl Sz0 (.agg (nums .i64 (List.replicate 68 0)).toArray) (nums .i64 (List.replicate 68 0)).toArray Z127 rfl ?_; intro w1 s1 Ls1 Ss1 b_ g_; have H2 := Aside0.mk g_; have HB1 := Aside0.mk (below_then HB0.out HB0.out.size b_); clear b_ g_ HB0))
  refine wp_region_grow_last 29 [Is (.slice A0 l0.length c0), Is (.slice A13 q13.length k13), Is (.int .i64 g0), Is (.slice A0 l0.length c0), Is (.slice A16 q16.length k16), Is (.int .i64 g1), Is (.slice A0 l0.length c0), Is (.slice A19 q19.length k19), Is (.int .i64 g2), Is (.slice A0 l0.length c0), Is (.slice A22 q22.length k22), Is (.int .i64 g3), Is (.slice A0 l0.length c0), Is (.slice A25 q25.length k25), Is (.int .i64 g4), Is (.slice A0 l0.length c0), Is (.slice A28 q28.length k28), Is (.int .i64 g5), Is (.slice A0 l0.length c0), Is (.slice A31 q31.length k31), Is (.int .i64 g6), Is (.slice A0 l0.length c0), Is (.slice A34 q34.length k34), Is (.agg (nums .i64 ri).toArray), Is (.slice A0 l0.length c0), Is (.slice A37 q37.length k37), Is (.agg (nums .i64 rm).toArray), Is (.agg (nums .i64 ra).toArray), New 127 (nums .i64 (List.replicate 68 0)).toArray w1.heap.size] (by kernel_rfl) (by kernel_rfl) (by kernel_rfl) (by kernel_rfl) (allst_cons st_is (allst_cons st_is (allst_cons st_is (allst_cons st_is (allst_cons st_is (allst_cons st_is (allst_cons st_is (allst_cons st_is (allst_cons st_is (allst_cons st_is (allst_cons st_is (allst_cons st_is (allst_cons st_is (allst_cons st_is (allst_cons st_is (allst_cons st_is (allst_cons st_is (allst_cons st_is (allst_cons st_is (allst_cons st_is (allst_cons st_is (allst_cons st_is (allst_cons st_is (allst_cons st_is (allst_cons st_is (allst_cons st_is (allst_cons st_is (allst_cons st_is (allst_cons st_new allst_nil))))))))))))))))))))))))))))) ?_ (fun w2 hgn => ?_)
  · refine steps_cons ?_ ?_
    · refine stepO_val rfl [] [0] (by kernel_rfl) (.slice A0 l0.length c0) (fun a w_ hg hf => ?_) (fun w_ _ => rfl)
      obtain ⟨_, ⟨o0, _⟩⟩ := hf
      have e0 : a.tmps[0]? = some (.slice A0 l0.length c0) := o0.trans rfl
      unfold execOp
      simp only [PrintLast.eval_of e0]
      rfl
    refine steps_cons ?_ ?_
    · refine stepO_val rfl [(0, 12)] [] (by kernel_rfl) (.slice A13 q13.length k13) (fun a w_ hg hf => ?_) (fun w_ _ => rfl)
      obtain ⟨⟨⟨_, e12, rfl⟩, _⟩, _⟩ := hf
      replace e12 : a.tmps[12]? = some (.slice A0 l0.length c0) := e12
      unfold execOp
      simp only [PrintLast.eval_of e12, Act.eval]
      go_simp
      (try rfl)
    refine steps_cons ?_ ?_
    · refine stepO_call rfl [(1, 13)] [] (by kernel_rfl) Tryd.func108 (by kernel_rfl) rfl rfl (fun a w_ hg hf => ?_)
      obtain ⟨⟨⟨_, e13, rfl⟩, _⟩, _⟩ := hf
      replace e13 : a.tmps[13]? = some (.slice A13 q13.length k13) := e13
      refine ⟨#[.slice A13 q13.length k13], (by simp only [List.map_toArray, List.map_cons, List.map_nil, PrintLast.eval_of e13]; first | done | rfl), (spec_l02Get.calls 20 A13 k13 q13 g0 w_ (Kd.C_below HR13.out (below_then HB1.out HB1.out.size hg)) HC13.out EG13.out).mono ?_⟩
      rintro e_ w2_ ⟨rfl, d_⟩
      have b_ := kept_drawn d_
      exact ⟨_, rfl, b_, rfl⟩
    refine steps_cons ?_ ?_
    · refine stepO_val rfl [] [0] (by kernel_rfl) (.slice A0 l0.length c0) (fun a w_ hg hf => ?_) (fun w_ _ => rfl)
      obtain ⟨_, ⟨o0, _⟩⟩ := hf
      have e0 : a.tmps[0]? = some (.slice A0 l0.length c0) := o0.trans rfl
      unfold execOp
      simp only [PrintLast.eval_of e0]
      rfl
    refine steps_cons ?_ ?_
    · refine stepO_val rfl [(3, 15)] [] (by kernel_rfl) (.slice A16 q16.length k16) (fun a w_ hg hf => ?_) (fun w_ _ => rfl)
      obtain ⟨⟨⟨_, e15, rfl⟩, _⟩, _⟩ := hf
      replace e15 : a.tmps[15]? = some (.slice A0 l0.length c0) := e15
      unfold execOp
      simp only [PrintLast.eval_of e15, Act.eval]
      go_simp
      (try rfl)
    refine steps_cons ?_ ?_
    · refine stepO_call rfl [(4, 16)] [] (by kernel_rfl) Tryd.func108 (by kernel_rfl) rfl rfl (fun a w_ hg hf => ?_)
      obtain ⟨⟨⟨_, e16, rfl⟩, _⟩, _⟩ := hf
      replace e16 : a.tmps[16]? = some (.slice A16 q16.length k16) := e16
      refine ⟨#[.slice A16 q16.length k16], (by simp only [List.map_toArray, List.map_cons, List.map_nil, PrintLast.eval_of e16]; first | done | rfl), (spec_l02Get.calls 20 A16 k16 q16 g1 w_ (Kd.C_below HR16.out (below_then HB1.out HB1.out.size hg)) HC16.out EG16.out).mono ?_⟩
      rintro e_ w2_ ⟨rfl, d_⟩
      have b_ := kept_drawn d_
      exact ⟨_, rfl, b_, rfl⟩
    refine steps_cons ?_ ?_
    · refine stepO_val rfl [] [0] (by kernel_rfl) (.slice A0 l0.length c0) (fun a w_ hg hf => ?_) (fun w_ _ => rfl)
      obtain ⟨_, ⟨o0, _⟩⟩ := hf
      have e0 : a.tmps[0]? = some (.slice A0 l0.length c0) := o0.trans rfl
      unfold execOp
      simp only [PrintLast.eval_of e0]
      rfl
    refine steps_cons ?_ ?_
    · refine stepO_val rfl [(6, 18)] [] (by kernel_rfl) (.slice A19 q19.length k19) (fun a w_ hg hf => ?_) (fun w_ _ => rfl)
      obtain ⟨⟨⟨_, e18, rfl⟩, _⟩, _⟩ := hf
      replace e18 : a.tmps[18]? = some (.slice A0 l0.length c0) := e18
      unfold execOp
      simp only [PrintLast.eval_of e18, Act.eval]
      go_simp
      (try rfl)
    refine steps_cons ?_ ?_
    · refine stepO_call rfl [(7, 19)] [] (by kernel_rfl) Tryd.func108 (by kernel_rfl) rfl rfl (fun a w_ hg hf => ?_)
      obtain ⟨⟨⟨_, e19, rfl⟩, _⟩, _⟩ := hf
      replace e19 : a.tmps[19]? = some (.slice A19 q19.length k19) := e19
      refine ⟨#[.slice A19 q19.length k19], (by simp only [List.map_toArray, List.map_cons, List.map_nil, PrintLast.eval_of e19]; first | done | rfl), (spec_l02Get.calls 20 A19 k19 q19 g2 w_ (Kd.C_below HR19.out (below_then HB1.out HB1.out.size hg)) HC19.out EG19.out).mono ?_⟩
      rintro e_ w2_ ⟨rfl, d_⟩
      have b_ := kept_drawn d_
      exact ⟨_, rfl, b_, rfl⟩
    refine steps_cons ?_ ?_
    · refine stepO_val rfl [] [0] (by kernel_rfl) (.slice A0 l0.length c0) (fun a w_ hg hf => ?_) (fun w_ _ => rfl)
      obtain ⟨_, ⟨o0, _⟩⟩ := hf
      have e0 : a.tmps[0]? = some (.slice A0 l0.length c0) := o0.trans rfl
      unfold execOp
      simp only [PrintLast.eval_of e0]
      rfl
    refine steps_cons ?_ ?_
    · refine stepO_val rfl [(9, 21)] [] (by kernel_rfl) (.slice A22 q22.length k22) (fun a w_ hg hf => ?_) (fun w_ _ => rfl)
      obtain ⟨⟨⟨_, e21, rfl⟩, _⟩, _⟩ := hf
      replace e21 : a.tmps[21]? = some (.slice A0 l0.length c0) := e21
      unfold execOp
      simp only [PrintLast.eval_of e21, Act.eval]
      go_simp
      (try rfl)
    refine steps_cons ?_ ?_
    · refine stepO_call rfl [(10, 22)] [] (by kernel_rfl) Tryd.func108 (by kernel_rfl) rfl rfl (fun a w_ hg hf => ?_)
      obtain ⟨⟨⟨_, e22, rfl⟩, _⟩, _⟩ := hf
      replace e22 : a.tmps[22]? = some (.slice A22 q22.length k22) := e22
      refine ⟨#[.slice A22 q22.length k22], (by simp only [List.map_toArray, List.map_cons, List.map_nil, PrintLast.eval_of e22]; first | done | rfl), (spec_l02Get.calls 20 A22 k22 q22 g3 w_ (Kd.C_below HR22.out (below_then HB1.out HB1.out.size hg)) HC22.out EG22.out).mono ?_⟩
      rintro e_ w2_ ⟨rfl, d_⟩
      have b_ := kept_drawn d_
      exact ⟨_, rfl, b_, rfl⟩
    refine steps_cons ?_ ?_
    · refine stepO_val rfl [] [0] (by kernel_rfl) (.slice A0 l0.length c0) (fun a w_ hg hf => ?_) (fun w_ _ => rfl)
      obtain ⟨_, ⟨o0, _⟩⟩ := hf
      have e0 : a.tmps[0]? = some (.slice A0 l0.length c0) := o0.trans rfl
      unfold execOp
      simp only [PrintLast.eval_of e0]
      rfl
    refine steps_cons ?_ ?_
    · refine stepO_val rfl [(12, 24)] [] (by kernel_rfl) (.slice A25 q25.length k25) (fun a w_ hg hf => ?_) (fun w_ _ => rfl)
      obtain ⟨⟨⟨_, e24, rfl⟩, _⟩, _⟩ := hf
      replace e24 : a.tmps[24]? = some (.slice A0 l0.length c0) := e24
      unfold execOp
      simp only [PrintLast.eval_of e24, Act.eval]
      go_simp
      (try rfl)
    refine steps_cons ?_ ?_
    · refine stepO_call rfl [(13, 25)] [] (by kernel_rfl) Tryd.func108 (by kernel_rfl) rfl rfl (fun a w_ hg hf => ?_)
      obtain ⟨⟨⟨_, e25, rfl⟩, _⟩, _⟩ := hf
      replace e25 : a.tmps[25]? = some (.slice A25 q25.length k25) := e25
      refine ⟨#[.slice A25 q25.length k25], (by simp only [List.map_toArray, List.map_cons, List.map_nil, PrintLast.eval_of e25]; first | done | rfl), (spec_l02Get.calls 20 A25 k25 q25 g4 w_ (Kd.C_below HR25.out (below_then HB1.out HB1.out.size hg)) HC25.out EG25.out).mono ?_⟩
      rintro e_ w2_ ⟨rfl, d_⟩
      have b_ := kept_drawn d_
      exact ⟨_, rfl, b_, rfl⟩
    refine steps_cons ?_ ?_
    · refine stepO_val rfl [] [0] (by kernel_rfl) (.slice A0 l0.length c0) (fun a w_ hg hf => ?_) (fun w_ _ => rfl)
      obtain ⟨_, ⟨o0, _⟩⟩ := hf
      have e0 : a.tmps[0]? = some (.slice A0 l0.length c0) := o0.trans rfl
      unfold execOp
      simp only [PrintLast.eval_of e0]
      rfl
    refine steps_cons ?_ ?_
    · refine stepO_val rfl [(15, 27)] [] (by kernel_rfl) (.slice A28 q28.length k28) (fun a w_ hg hf => ?_) (fun w_ _ => rfl)
      obtain ⟨⟨⟨_, e27, rfl⟩, _⟩, _⟩ := hf
      replace e27 : a.tmps[27]? = some (.slice A0 l0.length c0) := e27
      unfold execOp
      simp only [PrintLast.eval_of e27, Act.eval]
      go_simp
      (try rfl)
    refine steps_cons ?_ ?_
    · refine stepO_call rfl [(16, 28)] [] (by kernel_rfl) Tryd.func108 (by kernel_rfl) rfl rfl (fun a w_ hg hf => ?_)
      obtain ⟨⟨⟨_, e28, rfl⟩, _⟩, _⟩ := hf
      replace e28 : a.tmps[28]? = some (.slice A28 q28.length k28) := e28
      refine ⟨#[.slice A28 q28.length k28], (by simp only [List.map_toArray, List.map_cons, List.map_nil, PrintLast.eval_of e28]; first | done | rfl), (spec_l02Get.calls 20 A28 k28 q28 g5 w_ (Kd.C_below HR28.out (below_then HB1.out HB1.out.size hg)) HC28.out EG28.out).mono ?_⟩
      rintro e_ w2_ ⟨rfl, d_⟩
      have b_ := kept_drawn d_
      exact ⟨_, rfl, b_, rfl⟩
    refine steps_cons ?_ ?_
    · refine stepO_val rfl [] [0] (by kernel_rfl) (.slice A0 l0.length c0) (fun a w_ hg hf => ?_) (fun w_ _ => rfl)
      obtain ⟨_, ⟨o0, _⟩⟩ := hf
      have e0 : a.tmps[0]? = some (.slice A0 l0.length c0) := o0.trans rfl
      unfold execOp
      simp only [PrintLast.eval_of e0]
      rfl
    refine steps_cons ?_ ?_
    · refine stepO_val rfl [(18, 30)] [] (by kernel_rfl) (.slice A31 q31.length k31) (fun a w_ hg hf => ?_) (fun w_ _ => rfl)
      obtain ⟨⟨⟨_, e30, rfl⟩, _⟩, _⟩ := hf
      replace e30 : a.tmps[30]? = some (.slice A0 l0.length c0) := e30
      unfold execOp
      simp only [PrintLast.eval_of e30, Act.eval]
      go_simp
      (try rfl)
    refine steps_cons ?_ ?_
    · refine stepO_call rfl [(19, 31)] [] (by kernel_rfl) Tryd.func108 (by kernel_rfl) rfl rfl (fun a w_ hg hf => ?_)
      obtain ⟨⟨⟨_, e31, rfl⟩, _⟩, _⟩ := hf
      replace e31 : a.tmps[31]? = some (.slice A31 q31.length k31) := e31
      refine ⟨#[.slice A31 q31.length k31], (by simp only [List.map_toArray, List.map_cons, List.map_nil, PrintLast.eval_of e31]; first | done | rfl), (spec_l02Get.calls 20 A31 k31 q31 g6 w_ (Kd.C_below HR31.out (below_then HB1.out HB1.out.size hg)) HC31.out EG31.out).mono ?_⟩
      rintro e_ w2_ ⟨rfl, d_⟩
      have b_ := kept_drawn d_
      exact ⟨_, rfl, b_, rfl⟩
    refine steps_cons ?_ ?_
    · refine stepO_val rfl [] [0] (by kernel_rfl) (.slice A0 l0.length c0) (fun a w_ hg hf => ?_) (fun w_ _ => rfl)
      obtain ⟨_, ⟨o0, _⟩⟩ := hf
      have e0 : a.tmps[0]? = some (.slice A0 l0.length c0) := o0.trans rfl
      unfold execOp
      simp only [PrintLast.eval_of e0]
      rfl
    refine steps_cons ?_ ?_
    · refine stepO_val rfl [(21, 33)] [] (by kernel_rfl) (.slice A34 q34.length k34) (fun a w_ hg hf => ?_) (fun w_ _ => rfl)
      obtain ⟨⟨⟨_, e33, rfl⟩, _⟩, _⟩ := hf
      replace e33 : a.tmps[33]? = some (.slice A0 l0.length c0) := e33
      unfold execOp
      simp only [PrintLast.eval_of e33, Act.eval]
      go_simp
      (try rfl)
    refine steps_cons ?_ ?_
    · refine stepO_call rfl [(22, 34)] [] (by kernel_rfl) Tryd.func109 (by kernel_rfl) rfl rfl (fun a w_ hg hf => ?_)
      obtain ⟨⟨⟨_, e34, rfl⟩, _⟩, _⟩ := hf
      replace e34 : a.tmps[34]? = some (.slice A34 q34.length k34) := e34
      refine ⟨#[.slice A34 q34.length k34], (by simp only [List.map_toArray, List.map_cons, List.map_nil, PrintLast.eval_of e34]; first | done | rfl), (spec_l02RootOf.calls A34 k34 q34 ri w_ (Kd.C_below HR34.out (below_then HB1.out HB1.out.size hg)) HC34.out EG34.out).mono ?_⟩
      rintro e_ w2_ ⟨rfl, b_⟩
      exact ⟨_, rfl, b_, rfl⟩
    refine steps_cons ?_ ?_
    · refine stepO_val rfl [] [0] (by kernel_rfl) (.slice A0 l0.length c0) (fun a w_ hg hf => ?_) (fun w_ _ => rfl)
      obtain ⟨_, ⟨o0, _⟩⟩ := hf
      have e0 : a.tmps[0]? = some (.slice A0 l0.length c0) := o0.trans rfl
      unfold execOp
      simp only [PrintLast.eval_of e0]
      rfl
    refine steps_cons ?_ ?_
    · refine stepO_val rfl [(24, 36)] [] (by kernel_rfl) (.slice A37 q37.length k37) (fun a w_ hg hf => ?_) (fun w_ _ => rfl)
      obtain ⟨⟨⟨_, e36, rfl⟩, _⟩, _⟩ := hf
      replace e36 : a.tmps[36]? = some (.slice A0 l0.length c0) := e36
      unfold execOp
      simp only [PrintLast.eval_of e36, Act.eval]
      go_simp
      (try rfl)
    refine steps_cons ?_ ?_
    · refine stepO_call rfl [(25, 37)] [] (by kernel_rfl) Tryd.func109 (by kernel_rfl) rfl rfl (fun a w_ hg hf => ?_)
      obtain ⟨⟨⟨_, e37, rfl⟩, _⟩, _⟩ := hf
      replace e37 : a.tmps[37]? = some (.slice A37 q37.length k37) := e37
      refine ⟨#[.slice A37 q37.length k37], (by simp only [List.map_toArray, List.map_cons, List.map_nil, PrintLast.eval_of e37]; first | done | rfl), (spec_l02RootOf.calls A37 k37 q37 rm w_ (Kd.C_below HR37.out (below_then HB1.out HB1.out.size hg)) HC37.out EG37.out).mono ?_⟩
      rintro e_ w2_ ⟨rfl, b_⟩
      exact ⟨_, rfl, b_, rfl⟩
    refine steps_cons ?_ ?_
    · refine stepO_val rfl [(2, 14), (5, 17), (8, 20), (11, 23), (14, 26), (17, 29), (20, 32), (23, 35), (26, 38)] [] (by kernel_rfl) (.agg (nums .i64 ra).toArray) (fun a w_ hg hf => ?_) (fun w_ _ => rfl)
      obtain ⟨⟨⟨_, e14, rfl⟩, ⟨_, e17, rfl⟩, ⟨_, e20, rfl⟩, ⟨_, e23, rfl⟩, ⟨_, e26, rfl⟩, ⟨_, e29, rfl⟩, ⟨_, e32, rfl⟩, ⟨_, e35, rfl⟩, ⟨_, e38, rfl⟩, _⟩, _⟩ := hf
      replace e14 : a.tmps[14]? = some (.int .i64 g0) := e14
      replace e17 : a.tmps[17]? = some (.int .i64 g1) := e17
      replace e20 : a.tmps[20]? = some (.int .i64 g2) := e20
      replace e23 : a.tmps[23]? = some (.int .i64 g3) := e23
      replace e26 : a.tmps[26]? = some (.int .i64 g4) := e26
      replace e29 : a.tmps[29]? = some (.int .i64 g5) := e29
      replace e32 : a.tmps[32]? = some (.int .i64 g6) := e32
      replace e35 : a.tmps[35]? = some (.agg (nums .i64 ri).toArray) := e35
      replace e38 : a.tmps[38]? = some (.agg (nums .i64 rm).toArray) := e38
      unfold execOp
      simp only [PrintLast.eval_of e14, PrintLast.eval_of e17, PrintLast.eval_of e20, PrintLast.eval_of e23, PrintLast.eval_of e26, PrintLast.eval_of e29, PrintLast.eval_of e32, PrintLast.eval_of e35, PrintLast.eval_of e38, List.map_toArray, List.map_cons, List.map_nil, Sem.run_bind, Sem.run_pure, Result.andThen_ok, BU_.out]
    refine steps_cons ?_ ?_
    · refine stepO_alloc rfl [] [] (by kernel_rfl) rfl (.agg (nums .i64 (List.replicate 68 0)).toArray) (nums .i64 (List.replicate 68 0)).toArray Z127 rfl (fun _ _ h => h)
    exact steps_nil
  · skip
    refine ends_cons (fun v0_ p0_ => ?_)
    obtain rfl : v0_ = _ := p0_
    refine ends_cons (fun v1_ p1_ => ?_)
    obtain rfl : v1_ = _ := p1_
    refine ends_cons (fun v2_ p2_ => ?_)
    obtain rfl : v2_ = _ := p2_
    refine ends_cons (fun v3_ p3_ => ?_)
    obtain rfl : v3_ = _ := p3_
    refine ends_cons (fun v4_ p4_ => ?_)
    obtain rfl : v4_ = _ := p4_
    refine ends_cons (fun v5_ p5_ => ?_)
    obtain rfl : v5_ = _ := p5_
    refine ends_cons (fun v6_ p6_ => ?_)
    obtain rfl : v6_ = _ := p6_
    refine ends_cons (fun v7_ p7_ => ?_)
    obtain rfl : v7_ = _ := p7_
    refine ends_cons (fun v8_ p8_ => ?_)
    obtain rfl : v8_ = _ := p8_
    refine ends_cons (fun v9_ p9_ => ?_)
    obtain rfl : v9_ = _ := p9_
    refine ends_cons (fun v10_ p10_ => ?_)
    obtain rfl : v10_ = _ := p10_
    refine ends_cons (fun v11_ p11_ => ?_)
    obtain rfl : v11_ = _ := p11_
    refine ends_cons (fun v12_ p12_ => ?_)
    obtain rfl : v12_ = _ := p12_
    refine ends_cons (fun v13_ p13_ => ?_)
    obtain rfl : v13_ = _ := p13_
    refine ends_cons (fun v14_ p14_ => ?_)
    obtain rfl : v14_ = _ := p14_
    refine ends_cons (fun v15_ p15_ => ?_)
    obtain rfl : v15_ = _ := p15_
    refine ends_cons (fun v16_ p16_ => ?_)
    obtain rfl : v16_ = _ := p16_
    refine ends_cons (fun v17_ p17_ => ?_)
    obtain rfl : v17_ = _ := p17_
    refine ends_cons (fun v18_ p18_ => ?_)
    obtain rfl : v18_ = _ := p18_
    refine ends_cons (fun v19_ p19_ => ?_)
    obtain rfl : v19_ = _ := p19_
    refine ends_cons (fun v20_ p20_ => ?_)
    obtain rfl : v20_ = _ := p20_
    refine ends_cons (fun v21_ p21_ => ?_)
    obtain rfl : v21_ = _ := p21_
    refine ends_cons (fun v22_ p22_ => ?_)
    obtain rfl : v22_ = _ := p22_
    refine ends_cons (fun v23_ p23_ => ?_)
    obtain rfl : v23_ = _ := p23_
    refine ends_cons (fun v24_ p24_ => ?_)
    obtain rfl : v24_ = _ := p24_
    refine ends_cons (fun v25_ p25_ => ?_)
    obtain rfl : v25_ = _ := p25_
    refine ends_cons (fun v26_ p26_ => ?_)
    obtain rfl : v26_ = _ := p26_
    refine ends_cons (fun v27_ p27_ => ?_)
    obtain rfl : v27_ = _ := p27_
    refine ends_cons (fun v28_ p28_ => ?_)
    obtain ⟨g28_, l28_, rfl, n28_⟩ := p28_
    refine ends_nil ?_
    simp only [Act.put, List.setIfInBounds_toArray, List.set_cons_succ, List.set_cons_zero]
    have HB2 := Aside0.mk (below_then HB1.out HB1.out.size hgn)
    have H2_2 := Aside0.mk (blk_below H2.out hgn)
    rw [Ss1.out] at l28_
    have N28 := Aside0.mk n28_
    clear n28_ hgn HB1 H2 Z127
    simp only [List.drop_succ_cons, List.drop_zero]
    go_wp2_with (first | ((with_reducible refine gate_store (t := 127) (p := 4) (v := .tmp 39) rfl ?_); refine hx_store rfl rfl 127 (.tmp 4) (.tmp 39) rfl g28_ 68 rfl (nums .i64 ra).toArray rfl (by kernel_rfl) (nums_size _ _ _ NA.out) (nums_one _ _) N28.out (by simp [nums]) ?_; intro w4 t_ gg_; have HG4 := Aside0.mk gg_; have H2_3 := Aside0.mk (t_.keep (show s0 ≠ g28_ by omega) H2_2.out); have HB4 := Aside0.mk (t_.below HB2.out (by omega)); clear t_ gg_ N28 HB2 H2_2))
    (try simp only [Act.put, List.setIfInBounds_toArray, List.set_cons_succ, List.set_cons_zero])
    obtain ⟨zz, hzz⟩ : ∃ z, z = List.replicate 68 (0 : Int) := ⟨_, rfl⟩
    have hz_ := H2_3.out
    rw [← hzz] at hz_
    have HZ4 := Aside0.mk hz_
    have NZZ := Aside0.mk (show zz.length = 68 by rw [hzz]; simp)
    have HRA4 := HG4.out
    rw [← HRA.out] at HRA4
    have HU4 := Aside0.mk HRA4
    clear hz_ hzz H2_3 HRA4 HG4
    go_loopw [5, 40] (fun v5 v40 wr => ∃ (j : Nat) (u5 : Value), u5 = v5 ∧ v40 = .int .i64 (j : Int) ∧ Aside0 (j ≤ 31) ∧ Aside0 (wr.heap[g28_]? = some (.cells (nums .i64 (fsUp tp ss j)).toArray 127 (0, 0))) ∧ Aside0 (wr.heap[s0]? = some (.cells (nums .i64 zz).toArray 127 (0, 0))) ∧ Aside0 (Below w.heap.size w wr)) (fun _ v40 _ => 31 - (intOf v40).toNat)
    case atStart => exact ⟨0, _, rfl, rfl, ⟨Nat.zero_le _⟩, HU4, HZ4, HB4⟩
    case round =>
      clear HU4 HZ4 HB4
      obtain ⟨j, v5, rfl, rfl, hj, HGj, HZ, HB⟩ := hrel
      by_cases c9 : j < 31
      · have c9b0 : decide ((j : Int) < 31) = true := decide_eq_true (by omega)
        have c9b1 : decide (j < 31) = true := decide_eq_true c9
        have q3 : ((j : Int) < 31) = True := eq_true (by omega)
        have q4 : (0 ≤ (j : Int)) = True := eq_true (by omega)
        have q5 : (j < 31) = True := eq_true c9
        obtain ⟨p, hp⟩ : ∃ p, p = ss.getD j 0 := ⟨_, rfl⟩
        have EGJ := Aside0.mk (show spec_l02Get.f 20 (seg l0 (176 + 4 * j) 4) = some p by rw [hp, HSS.out, snapsOf_get _ _ c9, ← gcap4 (seg_byt HBY.out _ _) (by rw [seg_le _ _ (by rw [HL.out]; omega)]; decide)]; exact get_f (seg l0 (176 + 4 * j) 4) (seg_byt HBY.out _ _) (by rw [seg_le _ _ (by rw [HL.out]; omega)]; decide) 20 (by decide))
        have HLO := Aside0.mk (show wrap64 (176 + wrap64 (4 * (j : Int))) = ((176 + 4 * j : Nat) : Int) by rw [show wrap64 (4 * (j : Int)) = ((4 * j : Nat) : Int) by unfold wrap64; omega]; unfold wrap64; omega)
        have HHI := Aside0.mk (show wrap64 (180 + wrap64 (4 * (j : Int))) = ((180 + 4 * j : Nat) : Int) by rw [show wrap64 (4 * (j : Int)) = ((4 * j : Nat) : Int) by unfold wrap64; omega]; unfold wrap64; omega)
        obtain ⟨L, hL⟩ : ∃ L, L = fsUp tp ss j := ⟨_, rfl⟩
        have hg_ := HGj.out
        rw [← hL] at hg_
        have HG := Aside0.mk hg_
        have HUL := Aside0.mk (show L.length = 68 by rw [hL]; exact fsUp_length HTL.out HSL.out (by omega))
        have HLL := Aside0.mk hL
        have HPV := Aside0.mk hp
        have C9 := Aside0.mk c9
        clear hp hL hg_ HGj c9
        go_wp2_with (first | ((with_reducible refine gate_dst (N := 51) rfl ?_); refine hx_mid rfl 22 5 (.tmp 44) (.tmp 47) (.tmp 50) rfl A0 c0 l0 (176 + 4 * j) (180 + 4 * j) rfl (by rw [← HLO.out]; rfl) (by rw [← HHI.out]; rfl) Tryd.underlying22 (by kernel_rfl) (by omega) (by rw [HL.out]; have := C9.out; omega) HC0.out (Kd.C_below HR0.out HB.out) ?_; intro A51 c51 q51 hq51 hr51 hc51) | ((with_reducible refine gate_dst (N := 52) rfl ?_); refine goesL_ (some 52) rfl rfl Tryd.func108 (by kernel_rfl) rfl #[.slice A51 q51.length c51] rfl (by (try simp only [List.map_toArray, List.map_cons, List.map_nil]); first | done | rfl) ?_; refine (spec_l02Get.calls 20 A51 c51 q51 p _ hr51.out hc51.out (by rw [hq51.out, show 180 + 4 * j - (176 + 4 * j) = 4 by omega]; exact EGJ.out)).mono ?_; rintro e_ w5 ⟨rfl, d_⟩; refine ⟨_, rfl, ?_⟩; have b_ := kept_drawn d_; have HG5 := Aside0.mk (blk_below HG.out b_); have HZ5 := Aside0.mk (blk_below HZ.out b_); have HB5 := Aside0.mk (below_then HB.out HB.out.size b_); clear d_ hq51 hr51 hc51; clear b_ HG HZ HB) | ((with_reducible refine gate_store (t := 3) (p := 54) (v := .tmp 52) rfl ?_); refine hx_storef rfl rfl 3 (.tmp 54) (.tmp 52) rfl g28_ (37 + j) (by first | rfl | (simp [Act.eval]; done)) p rfl (by kernel_rfl) HG5.out (by rw [HUL.out]; have := C9.out; omega) ?_; intro w6 L6 t_ hl6 hn6 g_; have HG6 := Aside0.mk g_; have HZ6 := Aside0.mk (t_.keep (show s0 ≠ g28_ by omega) HZ5.out); have HB6 := Aside0.mk (t_.below HB5.out (by omega)); clear t_ g_ hn6 HG5 HZ5 HB5))
        go_roundw
        case rel => exact ⟨j + 1, _, rfl, by first | rw [show wrap64 ((j : Int) + 1) = ((j + 1 : Nat) : Int) by (have := C9.out; unfold wrap64; omega)] | (simp; done), ⟨by have := C9.out; omega⟩, ⟨by
          have h_ := HG6.out
          rw [hl6.out, HLL.out, HPV.out, fsUp_set HTL.out HSL.out C9.out] at h_
          exact h_⟩, HZ6, HB6⟩
        case measure =>
          (try rw [show wrap64 ((j : Int) + 1) = ((j + 1 : Nat) : Int) by (have := C9.out; unfold wrap64; omega)])
          simp only [intOf]
          have := C9.out
          omega
      · obtain rfl : j = 31 := by have := hj.out; omega
        have c9b0 : decide ((31 : Int) < 31) = false := by decide
        have hg_ := HGj.out
        rw [fsUp_all HSL.out, ← HRZ.out] at hg_
        have HG := Aside0.mk hg_
        clear c9 hg_ HGj
        by_cases hg : fsGood rz = true
        case neg =>
          have hd : decF rz l0 = (List.replicate 68 0, 21) := by unfold decF; rw [if_neg (fun h_ => hg h_.2.1)]
          rw [hd] at h
          simp only [Prod.mk.injEq] at h
          obtain ⟨rfl, rfl⟩ := h
          clear hd
          have ER := Aside0.mk (show spec_EncodeFsinfo.f rz = some ([], 7) by unfold spec_EncodeFsinfo.f; rw [if_neg hg])
          clear hg
          go_wp2_with (first | ((with_reducible refine gate_dst (N := 57) rfl ?_); refine hx_load rfl 127 (.tmp 4) rfl g28_ 68 rfl Tryd.underlying127 rfl (by kernel_rfl) HG.out (nums_size _ _ _ NL.out) ?_) | ((with_reducible refine gate_dst (N := 58) rfl ?_); refine goesL_ (some 58) rfl rfl Tryd.func131 (by kernel_rfl) rfl #[.agg (nums .i64 rz).toArray] rfl (by (try simp only [List.map_toArray, List.map_cons, List.map_nil]); first | done | rfl) ?_; refine (spec_EncodeFsinfo.calls rz NL.out [] 7 _ ER.out).mono ?_; rintro e_ w7 ⟨v0_, rfl, R_, b_⟩; refine ⟨_, rfl, ?_⟩; have HG7 := Aside0.mk (blk_below HG.out b_); have HZ7 := Aside0.mk (blk_below HZ.out b_); have HB7 := Aside0.mk (below_then HB.out HB.out.size b_); clear R_; clear b_ HG HZ HB) | ((with_reducible refine gate_store (t := 127) (p := 2) (v := .tmp 70) rfl ?_); refine hx_store rfl rfl 127 (.tmp 2) (.tmp 70) rfl s0 68 rfl (nums .i64 (List.replicate 68 0)).toArray rfl (by kernel_rfl) (by kernel_rfl) (nums_one _ _) HZ7.out (by simp [nums, NZZ.out]) ?_; intro we t_ gg_; have HE := Aside0.mk gg_; have HEB := Aside0.mk (t_.below HB7.out (by omega)); clear t_ gg_ HZ7 HB7 ))
          exact bodyPost_ret (results_ct rfl _ _ s0 127 (nums .i64 (List.replicate 68 0)).toArray (0, 0) _ rfl HE.out Tryd.underlying127 rfl (by kernel_rfl)) rfl ⟨rfl, HEB.out⟩
        have ER := Aside0.mk (show spec_EncodeFsinfo.f rz = some (fsBytes rz, 0) by unfold spec_EncodeFsinfo.f; rw [if_pos hg]; rfl)
        have hs0 : ((strOfNums (fsBytes rz)).toList == (strOfNums l0).toList) = decide (fsBytes rz = l0) := strOf_eq (fsBytes_byt rz) HBY.out
        by_cases he : fsBytes rz = l0
        case neg =>
          have hd : decF rz l0 = (List.replicate 68 0, 21) := by unfold decF; rw [if_neg (fun h_ => he h_.2.2)]
          rw [hd] at h
          simp only [Prod.mk.injEq] at h
          obtain ⟨rfl, rfl⟩ := h
          clear hd
          rw [decide_eq_false he] at hs0
          clear hg he
          obtain ⟨rb, hrb⟩ : ∃ b, b = fsBytes rz := ⟨_, rfl⟩
          rw [← hrb] at ER hs0
          clear hrb
          go_wp2_with (first | ((with_reducible refine gate_dst (N := 57) rfl ?_); refine hx_load rfl 127 (.tmp 4) rfl g28_ 68 rfl Tryd.underlying127 rfl (by kernel_rfl) HG.out (nums_size _ _ _ NL.out) ?_) | ((with_reducible refine gate_dst (N := 58) rfl ?_); refine goesL_ (some 58) rfl rfl Tryd.func131 (by kernel_rfl) rfl #[.agg (nums .i64 rz).toArray] rfl (by (try simp only [List.map_toArray, List.map_cons, List.map_nil]); first | done | rfl) ?_; refine (spec_EncodeFsinfo.calls rz NL.out rb 0 _ ER.out).mono ?_; rintro e_ w7 ⟨v0_, rfl, R_, b_⟩; obtain ⟨Ab, cb, rfl⟩ := Kd.R_slice R_; refine ⟨_, rfl, ?_⟩; have HG7 := Aside0.mk (blk_below HG.out b_); have HZ7 := Aside0.mk (blk_below HZ.out b_); have HB7 := Aside0.mk (below_then HB.out HB.out.size b_); have hcv1 := Kd.C_string (P := Tryd.prog) (A := Ab) (c := cb) Tryd.underlying22 Tryd.underlying5 Tryd.underlying9 (Kd.R_reads' R_).2.2; have hcv2 := Kd.C_string (P := Tryd.prog) (A := A0) (c := c0) Tryd.underlying22 Tryd.underlying5 Tryd.underlying9 (Kd.C_below HR0.out HB7.out); clear R_; clear b_ HG HZ HB) | ((with_reducible refine gate_store (t := 127) (p := 2) (v := .tmp 70) rfl ?_); refine hx_store rfl rfl 127 (.tmp 2) (.tmp 70) rfl s0 68 rfl (nums .i64 (List.replicate 68 0)).toArray rfl (by kernel_rfl) (by kernel_rfl) (nums_one _ _) HZ7.out (by simp [nums, NZZ.out]) ?_; intro we t_ gg_; have HE := Aside0.mk gg_; have HEB := Aside0.mk (t_.below HB7.out (by omega)); clear t_ gg_ HZ7 HB7 ))
          exact bodyPost_ret (results_ct rfl _ _ s0 127 (nums .i64 (List.replicate 68 0)).toArray (0, 0) _ rfl HE.out Tryd.underlying127 rfl (by kernel_rfl)) rfl ⟨rfl, HEB.out⟩
        have hd : decF rz l0 = (rz, 0) := by unfold decF; rw [if_pos ⟨HL.out, hg, he⟩]
        rw [hd] at h
        simp only [Prod.mk.injEq] at h
        obtain ⟨rfl, rfl⟩ := h
        rw [decide_eq_true he] at hs0
        clear hd hg he
        obtain ⟨rb, hrb⟩ : ∃ b, b = fsBytes rz := ⟨_, rfl⟩
        rw [← hrb] at ER hs0
        clear hrb
        go_wp2_with (first | ((with_reducible refine gate_dst (N := 57) rfl ?_); refine hx_load rfl 127 (.tmp 4) rfl g28_ 68 rfl Tryd.underlying127 rfl (by kernel_rfl) HG.out (nums_size _ _ _ NL.out) ?_) | ((with_reducible refine gate_dst (N := 58) rfl ?_); refine goesL_ (some 58) rfl rfl Tryd.func131 (by kernel_rfl) rfl #[.agg (nums .i64 rz).toArray] rfl (by (try simp only [List.map_toArray, List.map_cons, List.map_nil]); first | done | rfl) ?_; refine (spec_EncodeFsinfo.calls rz NL.out rb 0 _ ER.out).mono ?_; rintro e_ w7 ⟨v0_, rfl, R_, b_⟩; obtain ⟨Ab, cb, rfl⟩ := Kd.R_slice R_; refine ⟨_, rfl, ?_⟩; have HG7 := Aside0.mk (blk_below HG.out b_); have HZ7 := Aside0.mk (blk_below HZ.out b_); have HB7 := Aside0.mk (below_then HB.out HB.out.size b_); have hcv1 := Kd.C_string (P := Tryd.prog) (A := Ab) (c := cb) Tryd.underlying22 Tryd.underlying5 Tryd.underlying9 (Kd.R_reads' R_).2.2; have hcv2 := Kd.C_string (P := Tryd.prog) (A := A0) (c := c0) Tryd.underlying22 Tryd.underlying5 Tryd.underlying9 (Kd.C_below HR0.out HB7.out); clear R_; clear b_ HG HZ HB) | ((with_reducible refine gate_dst (N := 71) rfl ?_); refine hx_load rfl 127 (.tmp 4) rfl g28_ 68 rfl Tryd.underlying127 rfl (by kernel_rfl) HG7.out (nums_size _ _ _ NL.out) ?_) | ((with_reducible refine gate_store (t := 127) (p := 2) (v := .tmp 71) rfl ?_); refine hx_store rfl rfl 127 (.tmp 2) (.tmp 71) rfl s0 68 rfl (nums .i64 rz).toArray rfl (by kernel_rfl) (nums_size _ _ _ NL.out) (nums_one _ _) HZ7.out (by simp [nums, NZZ.out]) ?_; intro we t_ gg_; have HE := Aside0.mk gg_; have HEB := Aside0.mk (t_.below HB7.out (by omega)); clear t_ gg_ HZ7 HB7 ))
        exact bodyPost_ret (results_ct rfl _ _ s0 127 (nums .i64 rz).toArray (0, 0) _ rfl HE.out Tryd.underlying127 rfl (by rw [nums_size _ _ _ NL.out]; kernel_rfl)) rfl ⟨rfl, HEB.out⟩
end Go.Proofs.YtknlpjoidjgciaaDoor.PFnExactSnapshots
