-- Written by a program of this session (patch_print.py over the kit print)
import Derived.Test.YtkghgjehjchajaaPFnExactDecodeTablex0
import Derived.Test.YtkghgjehjchajaaPFnExactDecodeTablex5
import Derived.Test.YtkghgjehjchajaaPFnExactDecodeTablex6
namespace Go.Proofs.Ytkghgjehjchajaa.PFnExactDecodeTable
open Go.RowKit Go.Proofs.YtkghgjehjchajaaW.PrintWords Go.Proofs.YtkghgjehjchajaaW.PrintLast Go.Proofs.YtkghgjehjchajaaW.PrintMore
attribute [local go_sem] max2_int min2_int max_two min_two max_three min_three max_four min_four   -- for this text's walks alone
set_option linter.unusedVariables false
set_option linter.unusedSimpArgs false

open Go.Proofs.YtkghgjehjchajaaW Go.Proofs.YtkghgjehjchajaaW.PrintHand Go.Proofs.YtkghgjehjchajaaW.PrintHx
/-! ### spec_DecodeInode: function 24 -/
open Go.Proofs.YtkghgjehjchajaaW.PrintLe Go.Proofs.YtkghgjehjchajaaW.PrintGrow Go.Proofs.YtkghgjehjchajaaW.PrintDec Go.Proofs.YtkghgjehjchajaaW.PrintIno
def spec_DecodeInode.f (l0 : List Int) : Option (List Int × Int) := if (∀ x ∈ l0, 0 ≤ x ∧ x ≤ 255) then some (decI (inodeA l0) l0) else none
set_option maxHeartbeats 8000000 in
set_option maxRecDepth 100000 in
theorem spec_DecodeInode.calls (A0 : Option Addr) (c0 : Nat) (l0 : List Int) (r1 : List Int) (r2 : Int) (w : World) (hr0 : Kd.C (Kd.int .u8) w A0 l0.length l0) (hc0 : l0.length ≤ c0) (h : spec_DecodeInode.f l0 = some (r1, r2)) :
    Calls Try.prog 24 #[.slice A0 l0.length c0] w fun e w' => e = .returned (.tuple #[.agg (nums .i64 r1).toArray, .int .i64 r2]) ∧ Below w.heap.size w w' := by
  unfold spec_DecodeInode.f at h
  by_cases hdom : ∀ x ∈ l0, 0 ≤ x ∧ x ≤ 255
  case neg => rw [if_neg hdom] at h; cases h
  rw [if_pos hdom] at h
  replace h := Option.some.inj h
  have HBY : Aside0 (Byt l0) := ⟨hdom⟩
  have HR0 := Aside0.mk hr0
  have HC0 := Aside0.mk hc0
  clear hdom hr0 hc0
  have Z42 : ∀ w, (zeroValue 42).run Try.prog w = .ok (.agg (nums .i64 (List.replicate 24 0)).toArray) w := fun _ => by kernel_rfl
  have NZ := Aside0.mk (show (List.replicate 24 (0 : Int)).length = 24 by simp)
  have HB0 : Aside0 (Below w.heap.size w w) := ⟨Below.refl _ _⟩
  obtain ⟨s0, Sz0⟩ : ∃ s0, Aside0 (w.heap.size = s0) := ⟨_, ⟨rfl⟩⟩
  have hw0 : w.heap.size ≤ s0 := Nat.le_of_eq Sz0.out
  have hw1 : s0 ≤ w.heap.size := Nat.le_of_eq Sz0.out.symm
  by_cases hl : l0.length = 128
  case neg =>
    have hd : decI (inodeA l0) l0 = (List.replicate 24 0, 21) := by unfold decI; rw [if_neg (fun h_ => hl h_.1)]
    rw [hd] at h
    simp only [Prod.mk.injEq] at h
    obtain ⟨rfl, rfl⟩ := h
    clear hd
    have k0 : ((l0.length : Int) != 128) = true := bne_iff_ne.2 (by omega)
    clear hl
    go_enter Try.func24, Try.ntmps24
    go_wp2_with (first | ((with_reducible refine gate_dst (N := 2) rfl ?_); refine hx_alloc rfl 2 rfl 42 rfl Sz0 (.agg (nums .i64 (List.replicate 24 0)).toArray) (nums .i64 (List.replicate 24 0)).toArray Z42 rfl ?_; intro w1 s1 Ls1 Ss1 b_ g_; have H2 := Aside0.mk g_; have HB1 := Aside0.mk (below_then HB0.out HB0.out.size b_); clear b_ g_ HB0) | ((with_reducible refine gate_store (t := 42) (p := 2) (v := .tmp 10) rfl ?_); refine hx_store rfl rfl 42 (.tmp 2) (.tmp 10) rfl s0 24 rfl (nums .i64 (List.replicate 24 0)).toArray rfl (by kernel_rfl) (by kernel_rfl) (nums_one _ _) H2.out (by simp [nums]) ?_; intro we t_ gg_; have HE := Aside0.mk gg_; have HEB := Aside0.mk (t_.below HB1.out (by omega)); clear t_ gg_ H2 HB1 ))
    exact bodyPost_ret (results_ct rfl _ _ s0 42 (nums .i64 (List.replicate 24 0)).toArray (0, 0) _ rfl HE.out Try.underlying42 rfl (by kernel_rfl)) rfl ⟨rfl, HEB.out⟩
  have k0 : ((l0.length : Int) != 128) = false := by rw [hl]; rfl
  have HL := Aside0.mk hl
  clear hl
  have info5_ : (Try.prog.info? 5).map (fun i => (i.zero, i.size, i.bytes)) = some (some (.int .u8 0), 1, 1) := by kernel_rfl
  obtain ⟨i0_, hi0_, _, hsz_, _⟩ := info_parts info5_
  obtain ⟨ad, ead, cad_⟩ := Kd.at_int HR0.out 0 (by decide) (by rw [HL.out]; decide)
  subst ead
  clear cad_
  obtain ⟨g0, hg0⟩ : ∃ g, g = rd l0 0 := ⟨_, rfl⟩
  have G0 := Aside0.mk (show 0 ≤ g0 ∧ g0 ≤ 255 by rw [hg0]; have hl_ := HL.out; cases l0 with | nil => simp at hl_ | cons x xs => exact HBY.out x (by simp))
  have E0 := Aside0.mk hg0
  obtain ⟨A16, hcut16, hA16, hC16⟩ := print_mid_of (P := Try.prog) (Value.int .u8) 0 25 5 .i64 .i64 Try.underlying25 hi0_ hsz_ (some ad) c0 l0 (2 : Int) (4 : Int) (by decide) (by decide) (by rw [HL.out]; decide) HC0.out
  obtain ⟨q16, hq16⟩ : ∃ q, q = (l0.take (4 : Int).toNat).drop (2 : Int).toNat := ⟨_, rfl⟩
  rw [← hq16] at hcut16 hA16 hC16
  obtain ⟨k16, hk16⟩ : ∃ k, k = c0 - (2 : Int).toNat := ⟨_, rfl⟩
  rw [← hk16] at hcut16 hC16
  clear hk16
  have hs16 : q16 = seg l0 2 2 := by rw [hq16]; exact take_drop l0 2 4
  have HR16 := Aside0.mk (Kd.C_of_reads (h1 := fun _ => rfl) (hA16 _ (Kd.reads_of_C HR0.out)))
  have HC16 := Aside0.mk hC16
  obtain ⟨g1, hg1⟩ : ∃ g, g = le (seg l0 2 2) := ⟨_, rfl⟩
  have EG16 := Aside0.mk (show spec_l02Get.f 20 q16 = some g1 by rw [hg1, hs16, ← gcap4 (seg_byt HBY.out _ _) (by rw [seg_le _ _ (by rw [HL.out]; decide)]; decide)]; exact get_f (seg l0 2 2) (seg_byt HBY.out _ _) (by rw [seg_le _ _ (by rw [HL.out]; decide)]; decide) 20 (by decide))
  clear hs16 hq16 hA16 hC16
  obtain ⟨A19, hcut19, hA19, hC19⟩ := print_mid_of (P := Try.prog) (Value.int .u8) 0 25 5 .i64 .i64 Try.underlying25 hi0_ hsz_ (some ad) c0 l0 (4 : Int) (6 : Int) (by decide) (by decide) (by rw [HL.out]; decide) HC0.out
  obtain ⟨q19, hq19⟩ : ∃ q, q = (l0.take (6 : Int).toNat).drop (4 : Int).toNat := ⟨_, rfl⟩
  rw [← hq19] at hcut19 hA19 hC19
  obtain ⟨k19, hk19⟩ : ∃ k, k = c0 - (4 : Int).toNat := ⟨_, rfl⟩
  rw [← hk19] at hcut19 hC19
  clear hk19
  have hs19 : q19 = seg l0 4 2 := by rw [hq19]; exact take_drop l0 4 6
  have HR19 := Aside0.mk (Kd.C_of_reads (h1 := fun _ => rfl) (hA19 _ (Kd.reads_of_C HR0.out)))
  have HC19 := Aside0.mk hC19
  obtain ⟨g2, hg2⟩ : ∃ g, g = le (seg l0 4 2) := ⟨_, rfl⟩
  have EG19 := Aside0.mk (show spec_l02Get.f 20 q19 = some g2 by rw [hg2, hs19, ← gcap4 (seg_byt HBY.out _ _) (by rw [seg_le _ _ (by rw [HL.out]; decide)]; decide)]; exact get_f (seg l0 4 2) (seg_byt HBY.out _ _) (by rw [seg_le _ _ (by rw [HL.out]; decide)]; decide) 20 (by decide))
  clear hs19 hq19 hA19 hC19
  obtain ⟨A22, hcut22, hA22, hC22⟩ := print_mid_of (P := Try.prog) (Value.int .u8) 0 25 5 .i64 .i64 Try.underlying25 hi0_ hsz_ (some ad) c0 l0 (6 : Int) (8 : Int) (by decide) (by decide) (by rw [HL.out]; decide) HC0.out
  obtain ⟨q22, hq22⟩ : ∃ q, q = (l0.take (8 : Int).toNat).drop (6 : Int).toNat := ⟨_, rfl⟩
  rw [← hq22] at hcut22 hA22 hC22
  obtain ⟨k22, hk22⟩ : ∃ k, k = c0 - (6 : Int).toNat := ⟨_, rfl⟩
  rw [← hk22] at hcut22 hC22
  clear hk22
  have hs22 : q22 = seg l0 6 2 := by rw [hq22]; exact take_drop l0 6 8
  have HR22 := Aside0.mk (Kd.C_of_reads (h1 := fun _ => rfl) (hA22 _ (Kd.reads_of_C HR0.out)))
  have HC22 := Aside0.mk hC22
  obtain ⟨g3, hg3⟩ : ∃ g, g = le (seg l0 6 2) := ⟨_, rfl⟩
  have EG22 := Aside0.mk (show spec_l02Get.f 20 q22 = some g3 by rw [hg3, hs22, ← gcap4 (seg_byt HBY.out _ _) (by rw [seg_le _ _ (by rw [HL.out]; decide)]; decide)]; exact get_f (seg l0 6 2) (seg_byt HBY.out _ _) (by rw [seg_le _ _ (by rw [HL.out]; decide)]; decide) 20 (by decide))
  clear hs22 hq22 hA22 hC22
  obtain ⟨A25, hcut25, hA25, hC25⟩ := print_mid_of (P := Try.prog) (Value.int .u8) 0 25 5 .i64 .i64 Try.underlying25 hi0_ hsz_ (some ad) c0 l0 (8 : Int) (10 : Int) (by decide) (by decide) (by rw [HL.out]; decide) HC0.out
  obtain ⟨q25, hq25⟩ : ∃ q, q = (l0.take (10 : Int).toNat).drop (8 : Int).toNat := ⟨_, rfl⟩
  rw [← hq25] at hcut25 hA25 hC25
  obtain ⟨k25, hk25⟩ : ∃ k, k = c0 - (8 : Int).toNat := ⟨_, rfl⟩
  rw [← hk25] at hcut25 hC25
  clear hk25
  have hs25 : q25 = seg l0 8 2 := by rw [hq25]; exact take_drop l0 8 10
  have HR25 := Aside0.mk (Kd.C_of_reads (h1 := fun _ => rfl) (hA25 _ (Kd.reads_of_C HR0.out)))
  have HC25 := Aside0.mk hC25
  obtain ⟨g4, hg4⟩ : ∃ g, g = le (seg l0 8 2) := ⟨_, rfl⟩
  have EG25 := Aside0.mk (show spec_l02Get.f 20 q25 = some g4 by rw [hg4, hs25, ← gcap4 (seg_byt HBY.out _ _) (by rw [seg_le _ _ (by rw [HL.out]; decide)]; decide)]; exact get_f (seg l0 8 2) (seg_byt HBY.out _ _) (by rw [seg_le _ _ (by rw [HL.out]; decide)]; decide) 20 (by decide))
  clear hs25 hq25 hA25 hC25
  obtain ⟨A28, hcut28, hA28, hC28⟩ := print_mid_of (P := Try.prog) (Value.int .u8) 0 25 5 .i64 .i64 Try.underlying25 hi0_ hsz_ (some ad) c0 l0 (12 : Int) (16 : Int) (by decide) (by decide) (by rw [HL.out]; decide) HC0.out
  obtain ⟨q28, hq28⟩ : ∃ q, q = (l0.take (16 : Int).toNat).drop (12 : Int).toNat := ⟨_, rfl⟩
  rw [← hq28] at hcut28 hA28 hC28
  obtain ⟨k28, hk28⟩ : ∃ k, k = c0 - (12 : Int).toNat := ⟨_, rfl⟩
  rw [← hk28] at hcut28 hC28
  clear hk28
  have hs28 : q28 = seg l0 12 4 := by rw [hq28]; exact take_drop l0 12 16
  have HR28 := Aside0.mk (Kd.C_of_reads (h1 := fun _ => rfl) (hA28 _ (Kd.reads_of_C HR0.out)))
  have HC28 := Aside0.mk hC28
  obtain ⟨g5, hg5⟩ : ∃ g, g = le (seg l0 12 4) := ⟨_, rfl⟩
  have EG28 := Aside0.mk (show spec_l02Get.f 20 q28 = some g5 by rw [hg5, hs28, ← gcap4 (seg_byt HBY.out _ _) (by rw [seg_le _ _ (by rw [HL.out]; decide)]; decide)]; exact get_f (seg l0 12 4) (seg_byt HBY.out _ _) (by rw [seg_le _ _ (by rw [HL.out]; decide)]; decide) 20 (by decide))
  clear hs28 hq28 hA28 hC28
  obtain ⟨A31, hcut31, hA31, hC31⟩ := print_mid_of (P := Try.prog) (Value.int .u8) 0 25 5 .i64 .i64 Try.underlying25 hi0_ hsz_ (some ad) c0 l0 (16 : Int) (24 : Int) (by decide) (by decide) (by rw [HL.out]; decide) HC0.out
  obtain ⟨q31, hq31⟩ : ∃ q, q = (l0.take (24 : Int).toNat).drop (16 : Int).toNat := ⟨_, rfl⟩
  rw [← hq31] at hcut31 hA31 hC31
  obtain ⟨k31, hk31⟩ : ∃ k, k = c0 - (16 : Int).toNat := ⟨_, rfl⟩
  rw [← hk31] at hcut31 hC31
  clear hk31
  have hs31 : q31 = seg l0 16 8 := by rw [hq31]; exact take_drop l0 16 24
  have HR31 := Aside0.mk (Kd.C_of_reads (h1 := fun _ => rfl) (hA31 _ (Kd.reads_of_C HR0.out)))
  have HC31 := Aside0.mk hC31
  obtain ⟨g6, hg6⟩ : ∃ g, g = gcap (seg l0 16 8) := ⟨_, rfl⟩
  have EG31 := Aside0.mk (show spec_l02Get.f 20 q31 = some g6 by rw [hg6, hs31]; exact get_f (seg l0 16 8) (seg_byt HBY.out _ _) (by rw [seg_le _ _ (by rw [HL.out]; decide)]; decide) 20 (by decide))
  clear hs31 hq31 hA31 hC31
  obtain ⟨A34, hcut34, hA34, hC34⟩ := print_mid_of (P := Try.prog) (Value.int .u8) 0 25 5 .i64 .i64 Try.underlying25 hi0_ hsz_ (some ad) c0 l0 (24 : Int) (32 : Int) (by decide) (by decide) (by rw [HL.out]; decide) HC0.out
  obtain ⟨q34, hq34⟩ : ∃ q, q = (l0.take (32 : Int).toNat).drop (24 : Int).toNat := ⟨_, rfl⟩
  rw [← hq34] at hcut34 hA34 hC34
  obtain ⟨k34, hk34⟩ : ∃ k, k = c0 - (24 : Int).toNat := ⟨_, rfl⟩
  rw [← hk34] at hcut34 hC34
  clear hk34
  have hs34 : q34 = seg l0 24 8 := by rw [hq34]; exact take_drop l0 24 32
  have HR34 := Aside0.mk (Kd.C_of_reads (h1 := fun _ => rfl) (hA34 _ (Kd.reads_of_C HR0.out)))
  have HC34 := Aside0.mk hC34
  obtain ⟨g7, hg7⟩ : ∃ g, g = gcap (seg l0 24 8) := ⟨_, rfl⟩
  have EG34 := Aside0.mk (show spec_l02Get.f 20 q34 = some g7 by rw [hg7, hs34]; exact get_f (seg l0 24 8) (seg_byt HBY.out _ _) (by rw [seg_le _ _ (by rw [HL.out]; decide)]; decide) 20 (by decide))
  clear hs34 hq34 hA34 hC34
  obtain ⟨A37, hcut37, hA37, hC37⟩ := print_mid_of (P := Try.prog) (Value.int .u8) 0 25 5 .i64 .i64 Try.underlying25 hi0_ hsz_ (some ad) c0 l0 (32 : Int) (40 : Int) (by decide) (by decide) (by rw [HL.out]; decide) HC0.out
  obtain ⟨q37, hq37⟩ : ∃ q, q = (l0.take (40 : Int).toNat).drop (32 : Int).toNat := ⟨_, rfl⟩
  rw [← hq37] at hcut37 hA37 hC37
  obtain ⟨k37, hk37⟩ : ∃ k, k = c0 - (32 : Int).toNat := ⟨_, rfl⟩
  rw [← hk37] at hcut37 hC37
  clear hk37
  have hs37 : q37 = seg l0 32 8 := by rw [hq37]; exact take_drop l0 32 40
  have HR37 := Aside0.mk (Kd.C_of_reads (h1 := fun _ => rfl) (hA37 _ (Kd.reads_of_C HR0.out)))
  have HC37 := Aside0.mk hC37
  obtain ⟨g8, hg8⟩ : ∃ g, g = gcap (seg l0 32 8) := ⟨_, rfl⟩
  have EG37 := Aside0.mk (show spec_l02Get.f 20 q37 = some g8 by rw [hg8, hs37]; exact get_f (seg l0 32 8) (seg_byt HBY.out _ _) (by rw [seg_le _ _ (by rw [HL.out]; decide)]; decide) 20 (by decide))
  clear hs37 hq37 hA37 hC37
  obtain ⟨A40, hcut40, hA40, hC40⟩ := print_mid_of (P := Try.prog) (Value.int .u8) 0 25 5 .i64 .i64 Try.underlying25 hi0_ hsz_ (some ad) c0 l0 (40 : Int) (104 : Int) (by decide) (by decide) (by rw [HL.out]; decide) HC0.out
  obtain ⟨q40, hq40⟩ : ∃ q, q = (l0.take (104 : Int).toNat).drop (40 : Int).toNat := ⟨_, rfl⟩
  rw [← hq40] at hcut40 hA40 hC40
  obtain ⟨k40, hk40⟩ : ∃ k, k = c0 - (40 : Int).toNat := ⟨_, rfl⟩
  rw [← hk40] at hcut40 hC40
  clear hk40
  have hs40 : q40 = seg l0 40 64 := by rw [hq40]; exact take_drop l0 40 104
  have HR40 := Aside0.mk (Kd.C_of_reads (h1 := fun _ => rfl) (hA40 _ (Kd.reads_of_C HR0.out)))
  have HC40 := Aside0.mk hC40
  obtain ⟨rr, hrr⟩ : ∃ g, g = rootA (seg l0 40 64) := ⟨_, rfl⟩
  have NR := Aside0.mk (show rr.length = 15 by rw [hrr]; exact rootOf_length _ _)
  have EG40 := Aside0.mk (show spec_l02RootOf.f q40 = some rr by rw [hrr, hs40]; exact if_pos ⟨seg_le _ _ (by rw [HL.out]; decide), seg_byt HBY.out _ _⟩)
  clear hs40 hq40 hA40 hC40
  have hres : inodeA l0 = g0 :: g1 :: g2 :: g3 :: g4 :: g5 :: g6 :: g7 :: g8 :: rr := by rw [hg0, hg1, hg2, hg3, hg4, hg5, hg6, hg7, hg8, hrr, ← le_one (rd l0 0), ← seg_one (show 0 < l0.length by rw [HL.out]; decide)]; rfl
  clear hg0 hg1 hg2 hg3 hg4 hg5 hg6 hg7 hg8 hrr
  have BU : ∀ z : List Int, z.length = 15 → ∀ w, (Instr.build 42 #[(0, .int .i64 g0), (1, .int .i64 g1), (2, .int .i64 g2), (3, .int .i64 g3), (4, .int .i64 g4), (5, .int .i64 g5), (6, .int .i64 g6), (7, .int .i64 g7), (8, .int .i64 g8), (9, .agg (nums .i64 z).toArray)]).run Try.prog w = .ok (.agg (nums .i64 (g0 :: g1 :: g2 :: g3 :: g4 :: g5 :: g6 :: g7 :: g8 :: z)).toArray) w := by
    intro z h w_
    obtain ⟨x0, b0, rfl, h0⟩ := cons_of_len h
    obtain ⟨x1, b1, rfl, h1⟩ := cons_of_len h0
    obtain ⟨x2, b2, rfl, h2⟩ := cons_of_len h1
    obtain ⟨x3, b3, rfl, h3⟩ := cons_of_len h2
    obtain ⟨x4, b4, rfl, h4⟩ := cons_of_len h3
    obtain ⟨x5, b5, rfl, h5⟩ := cons_of_len h4
    obtain ⟨x6, b6, rfl, h6⟩ := cons_of_len h5
    obtain ⟨x7, b7, rfl, h7⟩ := cons_of_len h6
    obtain ⟨x8, b8, rfl, h8⟩ := cons_of_len h7
    obtain ⟨x9, b9, rfl, h9⟩ := cons_of_len h8
    obtain ⟨x10, b10, rfl, h10⟩ := cons_of_len h9
    obtain ⟨x11, b11, rfl, h11⟩ := cons_of_len h10
    obtain ⟨x12, b12, rfl, h12⟩ := cons_of_len h11
    obtain ⟨x13, b13, rfl, h13⟩ := cons_of_len h12
    obtain ⟨x14, b14, rfl, h14⟩ := cons_of_len h13
    obtain rfl := List.length_eq_zero_iff.mp h14
    exact run_build w_ 42 _ _ (by kernel_rfl)
  replace BU := BU rr NR.out
  have BU_ := Aside0.mk BU
  clear BU
  obtain ⟨ra, hra⟩ : ∃ a, a = g0 :: g1 :: g2 :: g3 :: g4 :: g5 :: g6 :: g7 :: g8 :: rr := ⟨_, rfl⟩
  rw [← hra] at BU_ hres
  rw [hres] at h
  have NL := Aside0.mk (show ra.length = 24 by rw [hra]; simp [NR.out])
  clear hra hres
  go_enter Try.func24, Try.ntmps24
  go_wp2_with (first | ((with_reducible refine gate_dst (N := 2) rfl ?_); refine hx_alloc rfl 2 rfl 42 rfl Sz0 (.agg (nums .i64 (List.replicate 24 0)).toArray) (nums .i64 (List.replicate 24 0)).toArray Z42 rfl ?_; intro w1 s1 Ls1 Ss1 b_ g_; have H2 := Aside0.mk g_; have HB1 := Aside0.mk (below_then HB0.out HB0.out.size b_); clear b_ g_ HB0))
  refine wp_region_grow_last 33 [Is (.slice (some ad) l0.length c0), Is (.pointer (some ad)), Is (.int .u8 g0), Is (.int .i64 g0), Is (.slice (some ad) l0.length c0), Is (.slice A16 q16.length k16), Is (.int .i64 g1), Is (.slice (some ad) l0.length c0), Is (.slice A19 q19.length k19), Is (.int .i64 g2), Is (.slice (some ad) l0.length c0), Is (.slice A22 q22.length k22), Is (.int .i64 g3), Is (.slice (some ad) l0.length c0), Is (.slice A25 q25.length k25), Is (.int .i64 g4), Is (.slice (some ad) l0.length c0), Is (.slice A28 q28.length k28), Is (.int .i64 g5), Is (.slice (some ad) l0.length c0), Is (.slice A31 q31.length k31), Is (.int .i64 g6), Is (.slice (some ad) l0.length c0), Is (.slice A34 q34.length k34), Is (.int .i64 g7), Is (.slice (some ad) l0.length c0), Is (.slice A37 q37.length k37), Is (.int .i64 g8), Is (.slice (some ad) l0.length c0), Is (.slice A40 q40.length k40), Is (.agg (nums .i64 rr).toArray), Is (.agg (nums .i64 ra).toArray), New 42 (nums .i64 (List.replicate 24 0)).toArray w1.heap.size] (by kernel_rfl) (by kernel_rfl) (by kernel_rfl) (by kernel_rfl) (allst_cons st_is (allst_cons st_is (allst_cons st_is (allst_cons st_is (allst_cons st_is (allst_cons st_is (allst_cons st_is (allst_cons st_is (allst_cons st_is (allst_cons st_is (allst_cons st_is (allst_cons st_is (allst_cons st_is (allst_cons st_is (allst_cons st_is (allst_cons st_is (allst_cons st_is (allst_cons st_is (allst_cons st_is (allst_cons st_is (allst_cons st_is (allst_cons st_is (allst_cons st_is (allst_cons st_is (allst_cons st_is (allst_cons st_is (allst_cons st_is (allst_cons st_is (allst_cons st_is (allst_cons st_is (allst_cons st_is (allst_cons st_is (allst_cons st_new allst_nil))))))))))))))))))))))))))))))))) ?_ (fun w2 hgn => ?_)
  · refine steps_cons ?_ ?_
    · refine stepO_val rfl [] [0] (by kernel_rfl) (.slice (some ad) l0.length c0) (fun a w_ hg hf => ?_) (fun w_ _ => rfl)
      obtain ⟨_, ⟨o0, _⟩⟩ := hf
      have e0 : a.tmps[0]? = some (.slice (some ad) l0.length c0) := o0.trans rfl
      unfold execOp
      simp only [PrintLast.eval_of e0]
      rfl
    refine steps_cons ?_ ?_
    · refine stepO_val rfl [(0, 11)] [] (by kernel_rfl) (.pointer (some ad)) (fun a w_ hg hf => ?_) (fun w_ _ => rfl)
      obtain ⟨⟨⟨_, e11, rfl⟩, _⟩, _⟩ := hf
      replace e11 : a.tmps[11]? = some (.slice (some ad) l0.length c0) := e11
      unfold execOp
      simp only [PrintLast.eval_of e11, Act.eval]
      go_simp
      exact fun h_ => absurd (show l0.length = 0 by rw [h_]; rfl) (by rw [HL.out]; decide)
    refine steps_cons ?_ ?_
    · refine stepO_val rfl [(1, 12)] [] (by kernel_rfl) (.int .u8 g0) (fun a w_ hg hf => ?_) (fun w_ _ => rfl)
      obtain ⟨⟨⟨_, e12, rfl⟩, _⟩, _⟩ := hf
      replace e12 : a.tmps[12]? = some (.pointer (some ad)) := e12
      obtain ⟨ad2_, he_, c_⟩ := Kd.at_int (Kd.C_below HR0.out (below_then HB1.out HB1.out.size hg)) 0 (by decide) (by rw [HL.out]; decide)
      obtain rfl := Option.some.inj he_
      have ea_ : ad.add (0 : Int).toNat = ad := by simp [Addr.add]
      rw [ea_, ← E0.out] at c_
      unfold execOp
      simp only [PrintLast.eval_of e12, Act.eval]
      go_simp
      (try rfl)
    refine steps_cons ?_ ?_
    · refine stepO_val rfl [(2, 13)] [] (by kernel_rfl) (.int .i64 g0) (fun a w_ hg hf => ?_) (fun w_ _ => rfl)
      obtain ⟨⟨⟨_, e13, rfl⟩, _⟩, _⟩ := hf
      replace e13 : a.tmps[13]? = some (.int .u8 g0) := e13
      have hw_ : IntKind.i64.wrap g0 = g0 := by (have := G0.out; rw [IntKind.wrap_i64]; omega)
      unfold execOp
      simp only [PrintLast.eval_of e13, Act.eval]
      go_simp
      (try rfl)
    refine steps_cons ?_ ?_
    · refine stepO_val rfl [] [0] (by kernel_rfl) (.slice (some ad) l0.length c0) (fun a w_ hg hf => ?_) (fun w_ _ => rfl)
      obtain ⟨_, ⟨o0, _⟩⟩ := hf
      have e0 : a.tmps[0]? = some (.slice (some ad) l0.length c0) := o0.trans rfl
      unfold execOp
      simp only [PrintLast.eval_of e0]
      rfl
    refine steps_cons ?_ ?_
    · refine stepO_val rfl [(4, 15)] [] (by kernel_rfl) (.slice A16 q16.length k16) (fun a w_ hg hf => ?_) (fun w_ _ => rfl)
      obtain ⟨⟨⟨_, e15, rfl⟩, _⟩, _⟩ := hf
      replace e15 : a.tmps[15]? = some (.slice (some ad) l0.length c0) := e15
      unfold execOp
      simp only [PrintLast.eval_of e15, Act.eval]
      go_simp
      (try rfl)
    refine steps_cons ?_ ?_
    · refine stepO_call rfl [(5, 16)] [] (by kernel_rfl) Try.func54 (by kernel_rfl) rfl rfl (fun a w_ hg hf => ?_)
      obtain ⟨⟨⟨_, e16, rfl⟩, _⟩, _⟩ := hf
      replace e16 : a.tmps[16]? = some (.slice A16 q16.length k16) := e16
      refine ⟨#[.slice A16 q16.length k16], (by simp only [List.map_toArray, List.map_cons, List.map_nil, PrintLast.eval_of e16]; first | done | rfl), (spec_l02Get.calls 20 A16 k16 q16 g1 w_ (Kd.C_below HR16.out (below_then HB1.out HB1.out.size hg)) HC16.out EG16.out).mono ?_⟩
      rintro e_ w2_ ⟨rfl, d_⟩
      have b_ := kept_drawn d_
      exact ⟨_, rfl, b_, rfl⟩
    refine steps_cons ?_ ?_
    · refine stepO_val rfl [] [0] (by kernel_rfl) (.slice (some ad) l0.length c0) (fun a w_ hg hf => ?_) (fun w_ _ => rfl)
      obtain ⟨_, ⟨o0, _⟩⟩ := hf
      have e0 : a.tmps[0]? = some (.slice (some ad) l0.length c0) := o0.trans rfl
      unfold execOp
      simp only [PrintLast.eval_of e0]
      rfl
    refine steps_cons ?_ ?_
    · refine stepO_val rfl [(7, 18)] [] (by kernel_rfl) (.slice A19 q19.length k19) (fun a w_ hg hf => ?_) (fun w_ _ => rfl)
      obtain ⟨⟨⟨_, e18, rfl⟩, _⟩, _⟩ := hf
      replace e18 : a.tmps[18]? = some (.slice (some ad) l0.length c0) := e18
      unfold execOp
      simp only [PrintLast.eval_of e18, Act.eval]
      go_simp
      (try rfl)
    refine steps_cons ?_ ?_
    · refine stepO_call rfl [(8, 19)] [] (by kernel_rfl) Try.func54 (by kernel_rfl) rfl rfl (fun a w_ hg hf => ?_)
      obtain ⟨⟨⟨_, e19, rfl⟩, _⟩, _⟩ := hf
      replace e19 : a.tmps[19]? = some (.slice A19 q19.length k19) := e19
      refine ⟨#[.slice A19 q19.length k19], (by simp only [List.map_toArray, List.map_cons, List.map_nil, PrintLast.eval_of e19]; first | done | rfl), (spec_l02Get.calls 20 A19 k19 q19 g2 w_ (Kd.C_below HR19.out (below_then HB1.out HB1.out.size hg)) HC19.out EG19.out).mono ?_⟩
      rintro e_ w2_ ⟨rfl, d_⟩
      have b_ := kept_drawn d_
      exact ⟨_, rfl, b_, rfl⟩
    refine steps_cons ?_ ?_
    · refine stepO_val rfl [] [0] (by kernel_rfl) (.slice (some ad) l0.length c0) (fun a w_ hg hf => ?_) (fun w_ _ => rfl)
      obtain ⟨_, ⟨o0, _⟩⟩ := hf
      have e0 : a.tmps[0]? = some (.slice (some ad) l0.length c0) := o0.trans rfl
      unfold execOp
      simp only [PrintLast.eval_of e0]
      rfl
    refine steps_cons ?_ ?_
    · refine stepO_val rfl [(10, 21)] [] (by kernel_rfl) (.slice A22 q22.length k22) (fun a w_ hg hf => ?_) (fun w_ _ => rfl)
      obtain ⟨⟨⟨_, e21, rfl⟩, _⟩, _⟩ := hf
      replace e21 : a.tmps[21]? = some (.slice (some ad) l0.length c0) := e21
      unfold execOp
      simp only [PrintLast.eval_of e21, Act.eval]
      go_simp
      (try rfl)
    refine steps_cons ?_ ?_
    · refine stepO_call rfl [(11, 22)] [] (by kernel_rfl) Try.func54 (by kernel_rfl) rfl rfl (fun a w_ hg hf => ?_)
      obtain ⟨⟨⟨_, e22, rfl⟩, _⟩, _⟩ := hf
      replace e22 : a.tmps[22]? = some (.slice A22 q22.length k22) := e22
      refine ⟨#[.slice A22 q22.length k22], (by simp only [List.map_toArray, List.map_cons, List.map_nil, PrintLast.eval_of e22]; first | done | rfl), (spec_l02Get.calls 20 A22 k22 q22 g3 w_ (Kd.C_below HR22.out (below_then HB1.out HB1.out.size hg)) HC22.out EG22.out).mono ?_⟩
      rintro e_ w2_ ⟨rfl, d_⟩
      have b_ := kept_drawn d_
      exact ⟨_, rfl, b_, rfl⟩
    refine steps_cons ?_ ?_
    · refine stepO_val rfl [] [0] (by kernel_rfl) (.slice (some ad) l0.length c0) (fun a w_ hg hf => ?_) (fun w_ _ => rfl)
      obtain ⟨_, ⟨o0, _⟩⟩ := hf
      have e0 : a.tmps[0]? = some (.slice (some ad) l0.length c0) := o0.trans rfl
      unfold execOp
      simp only [PrintLast.eval_of e0]
      rfl
    refine steps_cons ?_ ?_
    · refine stepO_val rfl [(13, 24)] [] (by kernel_rfl) (.slice A25 q25.length k25) (fun a w_ hg hf => ?_) (fun w_ _ => rfl)
      obtain ⟨⟨⟨_, e24, rfl⟩, _⟩, _⟩ := hf
      replace e24 : a.tmps[24]? = some (.slice (some ad) l0.length c0) := e24
      unfold execOp
      simp only [PrintLast.eval_of e24, Act.eval]
      go_simp
      (try rfl)
    refine steps_cons ?_ ?_
    · refine stepO_call rfl [(14, 25)] [] (by kernel_rfl) Try.func54 (by kernel_rfl) rfl rfl (fun a w_ hg hf => ?_)
      obtain ⟨⟨⟨_, e25, rfl⟩, _⟩, _⟩ := hf
      replace e25 : a.tmps[25]? = some (.slice A25 q25.length k25) := e25
      refine ⟨#[.slice A25 q25.length k25], (by simp only [List.map_toArray, List.map_cons, List.map_nil, PrintLast.eval_of e25]; first | done | rfl), (spec_l02Get.calls 20 A25 k25 q25 g4 w_ (Kd.C_below HR25.out (below_then HB1.out HB1.out.size hg)) HC25.out EG25.out).mono ?_⟩
      rintro e_ w2_ ⟨rfl, d_⟩
      have b_ := kept_drawn d_
      exact ⟨_, rfl, b_, rfl⟩
    refine steps_cons ?_ ?_
    · refine stepO_val rfl [] [0] (by kernel_rfl) (.slice (some ad) l0.length c0) (fun a w_ hg hf => ?_) (fun w_ _ => rfl)
      obtain ⟨_, ⟨o0, _⟩⟩ := hf
      have e0 : a.tmps[0]? = some (.slice (some ad) l0.length c0) := o0.trans rfl
      unfold execOp
      simp only [PrintLast.eval_of e0]
      rfl
    refine steps_cons ?_ ?_
    · refine stepO_val rfl [(16, 27)] [] (by kernel_rfl) (.slice A28 q28.length k28) (fun a w_ hg hf => ?_) (fun w_ _ => rfl)
      obtain ⟨⟨⟨_, e27, rfl⟩, _⟩, _⟩ := hf
      replace e27 : a.tmps[27]? = some (.slice (some ad) l0.length c0) := e27
      unfold execOp
      simp only [PrintLast.eval_of e27, Act.eval]
      go_simp
      (try rfl)
    refine steps_cons ?_ ?_
    · refine stepO_call rfl [(17, 28)] [] (by kernel_rfl) Try.func54 (by kernel_rfl) rfl rfl (fun a w_ hg hf => ?_)
      obtain ⟨⟨⟨_, e28, rfl⟩, _⟩, _⟩ := hf
      replace e28 : a.tmps[28]? = some (.slice A28 q28.length k28) := e28
      refine ⟨#[.slice A28 q28.length k28], (by simp only [List.map_toArray, List.map_cons, List.map_nil, PrintLast.eval_of e28]; first | done | rfl), (spec_l02Get.calls 20 A28 k28 q28 g5 w_ (Kd.C_below HR28.out (below_then HB1.out HB1.out.size hg)) HC28.out EG28.out).mono ?_⟩
      rintro e_ w2_ ⟨rfl, d_⟩
      have b_ := kept_drawn d_
      exact ⟨_, rfl, b_, rfl⟩
    refine steps_cons ?_ ?_
    · refine stepO_val rfl [] [0] (by kernel_rfl) (.slice (some ad) l0.length c0) (fun a w_ hg hf => ?_) (fun w_ _ => rfl)
      obtain ⟨_, ⟨o0, _⟩⟩ := hf
      have e0 : a.tmps[0]? = some (.slice (some ad) l0.length c0) := o0.trans rfl
      unfold execOp
      simp only [PrintLast.eval_of e0]
      rfl
    refine steps_cons ?_ ?_
    · refine stepO_val rfl [(19, 30)] [] (by kernel_rfl) (.slice A31 q31.length k31) (fun a w_ hg hf => ?_) (fun w_ _ => rfl)
      obtain ⟨⟨⟨_, e30, rfl⟩, _⟩, _⟩ := hf
      replace e30 : a.tmps[30]? = some (.slice (some ad) l0.length c0) := e30
      unfold execOp
      simp only [PrintLast.eval_of e30, Act.eval]
      go_simp
      (try rfl)
    refine steps_cons ?_ ?_
    · refine stepO_call rfl [(20, 31)] [] (by kernel_rfl) Try.func54 (by kernel_rfl) rfl rfl (fun a w_ hg hf => ?_)
      obtain ⟨⟨⟨_, e31, rfl⟩, _⟩, _⟩ := hf
      replace e31 : a.tmps[31]? = some (.slice A31 q31.length k31) := e31
      refine ⟨#[.slice A31 q31.length k31], (by simp only [List.map_toArray, List.map_cons, List.map_nil, PrintLast.eval_of e31]; first | done | rfl), (spec_l02Get.calls 20 A31 k31 q31 g6 w_ (Kd.C_below HR31.out (below_then HB1.out HB1.out.size hg)) HC31.out EG31.out).mono ?_⟩
      rintro e_ w2_ ⟨rfl, d_⟩
      have b_ := kept_drawn d_
      exact ⟨_, rfl, b_, rfl⟩
    refine steps_cons ?_ ?_
    · refine stepO_val rfl [] [0] (by kernel_rfl) (.slice (some ad) l0.length c0) (fun a w_ hg hf => ?_) (fun w_ _ => rfl)
      obtain ⟨_, ⟨o0, _⟩⟩ := hf
      have e0 : a.tmps[0]? = some (.slice (some ad) l0.length c0) := o0.trans rfl
      unfold execOp
      simp only [PrintLast.eval_of e0]
      rfl
    refine steps_cons ?_ ?_
    · refine stepO_val rfl [(22, 33)] [] (by kernel_rfl) (.slice A34 q34.length k34) (fun a w_ hg hf => ?_) (fun w_ _ => rfl)
      obtain ⟨⟨⟨_, e33, rfl⟩, _⟩, _⟩ := hf
      replace e33 : a.tmps[33]? = some (.slice (some ad) l0.length c0) := e33
      unfold execOp
      simp only [PrintLast.eval_of e33, Act.eval]
      go_simp
      (try rfl)
    refine steps_cons ?_ ?_
    · refine stepO_call rfl [(23, 34)] [] (by kernel_rfl) Try.func54 (by kernel_rfl) rfl rfl (fun a w_ hg hf => ?_)
      obtain ⟨⟨⟨_, e34, rfl⟩, _⟩, _⟩ := hf
      replace e34 : a.tmps[34]? = some (.slice A34 q34.length k34) := e34
      refine ⟨#[.slice A34 q34.length k34], (by simp only [List.map_toArray, List.map_cons, List.map_nil, PrintLast.eval_of e34]; first | done | rfl), (spec_l02Get.calls 20 A34 k34 q34 g7 w_ (Kd.C_below HR34.out (below_then HB1.out HB1.out.size hg)) HC34.out EG34.out).mono ?_⟩
      rintro e_ w2_ ⟨rfl, d_⟩
      have b_ := kept_drawn d_
      exact ⟨_, rfl, b_, rfl⟩
    refine steps_cons ?_ ?_
    · refine stepO_val rfl [] [0] (by kernel_rfl) (.slice (some ad) l0.length c0) (fun a w_ hg hf => ?_) (fun w_ _ => rfl)
      obtain ⟨_, ⟨o0, _⟩⟩ := hf
      have e0 : a.tmps[0]? = some (.slice (some ad) l0.length c0) := o0.trans rfl
      unfold execOp
      simp only [PrintLast.eval_of e0]
      rfl
    refine steps_cons ?_ ?_
    · refine stepO_val rfl [(25, 36)] [] (by kernel_rfl) (.slice A37 q37.length k37) (fun a w_ hg hf => ?_) (fun w_ _ => rfl)
      obtain ⟨⟨⟨_, e36, rfl⟩, _⟩, _⟩ := hf
      replace e36 : a.tmps[36]? = some (.slice (some ad) l0.length c0) := e36
      unfold execOp
      simp only [PrintLast.eval_of e36, Act.eval]
      go_simp
      (try rfl)
    refine steps_cons ?_ ?_
    · refine stepO_call rfl [(26, 37)] [] (by kernel_rfl) Try.func54 (by kernel_rfl) rfl rfl (fun a w_ hg hf => ?_)
      obtain ⟨⟨⟨_, e37, rfl⟩, _⟩, _⟩ := hf
      replace e37 : a.tmps[37]? = some (.slice A37 q37.length k37) := e37
      refine ⟨#[.slice A37 q37.length k37], (by simp only [List.map_toArray, List.map_cons, List.map_nil, PrintLast.eval_of e37]; first | done | rfl), (spec_l02Get.calls 20 A37 k37 q37 g8 w_ (Kd.C_below HR37.out (below_then HB1.out HB1.out.size hg)) HC37.out EG37.out).mono ?_⟩
      rintro e_ w2_ ⟨rfl, d_⟩
      have b_ := kept_drawn d_
      exact ⟨_, rfl, b_, rfl⟩
    refine steps_cons ?_ ?_
    · refine stepO_val rfl [] [0] (by kernel_rfl) (.slice (some ad) l0.length c0) (fun a w_ hg hf => ?_) (fun w_ _ => rfl)
      obtain ⟨_, ⟨o0, _⟩⟩ := hf
      have e0 : a.tmps[0]? = some (.slice (some ad) l0.length c0) := o0.trans rfl
      unfold execOp
      simp only [PrintLast.eval_of e0]
      rfl
    refine steps_cons ?_ ?_
    · refine stepO_val rfl [(28, 39)] [] (by kernel_rfl) (.slice A40 q40.length k40) (fun a w_ hg hf => ?_) (fun w_ _ => rfl)
      obtain ⟨⟨⟨_, e39, rfl⟩, _⟩, _⟩ := hf
      replace e39 : a.tmps[39]? = some (.slice (some ad) l0.length c0) := e39
      unfold execOp
      simp only [PrintLast.eval_of e39, Act.eval]
      go_simp
      (try rfl)
    refine steps_cons ?_ ?_
    · refine stepO_call rfl [(29, 40)] [] (by kernel_rfl) Try.func46 (by kernel_rfl) rfl rfl (fun a w_ hg hf => ?_)
      obtain ⟨⟨⟨_, e40, rfl⟩, _⟩, _⟩ := hf
      replace e40 : a.tmps[40]? = some (.slice A40 q40.length k40) := e40
      refine ⟨#[.slice A40 q40.length k40], (by simp only [List.map_toArray, List.map_cons, List.map_nil, PrintLast.eval_of e40]; first | done | rfl), (spec_l02RootOf.calls A40 k40 q40 rr w_ (Kd.C_below HR40.out (below_then HB1.out HB1.out.size hg)) HC40.out EG40.out).mono ?_⟩
      rintro e_ w2_ ⟨rfl, b_⟩
      exact ⟨_, rfl, b_, rfl⟩
    refine steps_cons ?_ ?_
    · refine stepO_val rfl [(3, 14), (6, 17), (9, 20), (12, 23), (15, 26), (18, 29), (21, 32), (24, 35), (27, 38), (30, 41)] [] (by kernel_rfl) (.agg (nums .i64 ra).toArray) (fun a w_ hg hf => ?_) (fun w_ _ => rfl)
      obtain ⟨⟨⟨_, e14, rfl⟩, ⟨_, e17, rfl⟩, ⟨_, e20, rfl⟩, ⟨_, e23, rfl⟩, ⟨_, e26, rfl⟩, ⟨_, e29, rfl⟩, ⟨_, e32, rfl⟩, ⟨_, e35, rfl⟩, ⟨_, e38, rfl⟩, ⟨_, e41, rfl⟩, _⟩, _⟩ := hf
      replace e14 : a.tmps[14]? = some (.int .i64 g0) := e14
      replace e17 : a.tmps[17]? = some (.int .i64 g1) := e17
      replace e20 : a.tmps[20]? = some (.int .i64 g2) := e20
      replace e23 : a.tmps[23]? = some (.int .i64 g3) := e23
      replace e26 : a.tmps[26]? = some (.int .i64 g4) := e26
      replace e29 : a.tmps[29]? = some (.int .i64 g5) := e29
      replace e32 : a.tmps[32]? = some (.int .i64 g6) := e32
      replace e35 : a.tmps[35]? = some (.int .i64 g7) := e35
      replace e38 : a.tmps[38]? = some (.int .i64 g8) := e38
      replace e41 : a.tmps[41]? = some (.agg (nums .i64 rr).toArray) := e41
      unfold execOp
      simp only [PrintLast.eval_of e14, PrintLast.eval_of e17, PrintLast.eval_of e20, PrintLast.eval_of e23, PrintLast.eval_of e26, PrintLast.eval_of e29, PrintLast.eval_of e32, PrintLast.eval_of e35, PrintLast.eval_of e38, PrintLast.eval_of e41, List.map_toArray, List.map_cons, List.map_nil, Sem.run_bind, Sem.run_pure, Result.andThen_ok, BU_.out]
    refine steps_cons ?_ ?_
    · refine stepO_alloc rfl [] [] (by kernel_rfl) rfl (.agg (nums .i64 (List.replicate 24 0)).toArray) (nums .i64 (List.replicate 24 0)).toArray Z42 rfl (fun _ _ h => h)
    exact steps_nil
  · skip
    refine ends_cons (fun v0_ p0_ => ?_)
    obtain rfl : v0_ = _ := p0_
    refine ends_cons (fun v1_ p1_ => ?_)
    obtain rfl : v1_ = _ := p1_
    refine ends_cons (fun v2_ p2_ => ?_)
    obtain rfl : v2_ = _ := p2_
    refine ends_cons (fun v3_ p3_ => ?_)
    obtain rfl : v3_ = _ := p3_
    refine ends_cons (fun v4_ p4_ => ?_)
    obtain rfl : v4_ = _ := p4_
    refine ends_cons (fun v5_ p5_ => ?_)
    obtain rfl : v5_ = _ := p5_
    refine ends_cons (fun v6_ p6_ => ?_)
    obtain rfl : v6_ = _ := p6_
    refine ends_cons (fun v7_ p7_ => ?_)
    obtain rfl : v7_ = _ := p7_
    refine ends_cons (fun v8_ p8_ => ?_)
    obtain rfl : v8_ = _ := p8_
    refine ends_cons (fun v9_ p9_ => ?_)
    obtain rfl : v9_ = _ := p9_
    refine ends_cons (fun v10_ p10_ => ?_)
    obtain rfl : v10_ = _ := p10_
    refine ends_cons (fun v11_ p11_ => ?_)
    obtain rfl : v11_ = _ := p11_
    refine ends_cons (fun v12_ p12_ => ?_)
    obtain rfl : v12_ = _ := p12_
    refine ends_cons (fun v13_ p13_ => ?_)
    obtain rfl : v13_ = _ := p13_
    refine ends_cons (fun v14_ p14_ => ?_)
    obtain rfl : v14_ = _ := p14_
    refine ends_cons (fun v15_ p15_ => ?_)
    obtain rfl : v15_ = _ := p15_
    refine ends_cons (fun v16_ p16_ => ?_)
    obtain rfl : v16_ = _ := p16_
    refine ends_cons (fun v17_ p17_ => ?_)
    obtain rfl : v17_ = _ := p17_
    refine ends_cons (fun v18_ p18_ => ?_)
    obtain rfl : v18_ = _ := p18_
    refine ends_cons (fun v19_ p19_ => ?_)
    obtain rfl : v19_ = _ := p19_
    refine ends_cons (fun v20_ p20_ => ?_)
    obtain rfl : v20_ = _ := p20_
    refine ends_cons (fun v21_ p21_ => ?_)
    obtain rfl : v21_ = _ := p21_
    refine ends_cons (fun v22_ p22_ => ?_)
    obtain rfl : v22_ = _ := p22_
    refine ends_cons (fun v23_ p23_ => ?_)
    obtain rfl : v23_ = _ := p23_
    refine ends_cons (fun v24_ p24_ => ?_)
    obtain rfl : v24_ = _ := p24_
    refine ends_cons (fun v25_ p25_ => ?_)
    obtain rfl : v25_ = _ := p25_
    refine ends_cons (fun v26_ p26_ => ?_)
    obtain rfl : v26_ = _ := p26_
    refine ends_cons (fun v27_ p27_ => ?_)
    obtain rfl : v27_ = _ := p27_
    refine ends_cons (fun v28_ p28_ => ?_)
    obtain rfl : v28_ = _ := p28_
    refine ends_cons (fun v29_ p29_ => ?_)
    obtain rfl : v29_ = _ := p29_
    refine ends_cons (fun v30_ p30_ => ?_)
    obtain rfl : v30_ = _ := p30_
    refine ends_cons (fun v31_ p31_ => ?_)
    obtain rfl : v31_ = _ := p31_
    refine ends_cons (fun v32_ p32_ => ?_)
    obtain ⟨g32_, l32_, rfl, n32_⟩ := p32_
    refine ends_nil ?_
    simp only [Act.put, List.setIfInBounds_toArray, List.set_cons_succ, List.set_cons_zero]
    have HB2 := Aside0.mk (below_then HB1.out HB1.out.size hgn)
    have H2_2 := Aside0.mk (blk_below H2.out hgn)
    rw [Ss1.out] at l32_
    have N32 := Aside0.mk n32_
    clear n32_ hgn HB1 H2 Z42
    simp only [List.drop_succ_cons, List.drop_zero]
    by_cases hg : inodeGood ra = true
    case neg =>
      have hd : decI ra l0 = (List.replicate 24 0, 21) := by unfold decI; rw [if_neg (fun h_ => hg h_.2.1)]
      rw [hd] at h
      simp only [Prod.mk.injEq] at h
      obtain ⟨rfl, rfl⟩ := h
      clear hd
      have ER := Aside0.mk (show spec_EncodeInode.f ra = some ([], 7) by unfold spec_EncodeInode.f; rw [if_neg hg])
      clear hg
      go_wp2_with (first | ((with_reducible refine gate_store (t := 42) (p := 4) (v := .tmp 42) rfl ?_); refine hx_store rfl rfl 42 (.tmp 4) (.tmp 42) rfl g32_ 24 rfl (nums .i64 ra).toArray rfl (by kernel_rfl) (nums_size _ _ _ NL.out) (nums_one _ _) N32.out (by simp [nums]) ?_; intro w4 t_ gg_; have HG4 := Aside0.mk gg_; have H2_3 := Aside0.mk (t_.keep (show s0 ≠ g32_ by omega) H2_2.out); have HB4 := Aside0.mk (t_.below HB2.out (by omega)); clear t_ gg_ N32 HB2 H2_2) | ((with_reducible refine gate_dst (N := 44) rfl ?_); refine hx_load rfl 42 (.tmp 4) rfl g32_ 24 rfl Try.underlying42 rfl (by kernel_rfl) HG4.out (nums_size _ _ _ NL.out) ?_) | ((with_reducible refine gate_dst (N := 45) rfl ?_); refine goesL_ (some 45) rfl rfl Try.func21 (by kernel_rfl) rfl #[.agg (nums .i64 ra).toArray] rfl (by (try simp only [List.map_toArray, List.map_cons, List.map_nil]); first | done | rfl) ?_; refine (spec_EncodeInode.calls ra NL.out [] 7 _ ER.out).mono ?_; rintro e_ w5 ⟨v0_, rfl, R_, b_⟩; refine ⟨_, rfl, ?_⟩; have HG5 := Aside0.mk (blk_below HG4.out b_); have H25 := Aside0.mk (blk_below H2_3.out b_); have HB5 := Aside0.mk (below_then HB4.out HB4.out.size b_); clear b_ R_ HG4 H2_3 HB4) | ((with_reducible refine gate_store (t := 42) (p := 2) (v := .tmp 57) rfl ?_); refine hx_store rfl rfl 42 (.tmp 2) (.tmp 57) rfl s0 24 rfl (nums .i64 (List.replicate 24 0)).toArray rfl (by kernel_rfl) (by kernel_rfl) (nums_one _ _) H25.out (by simp [nums]) ?_; intro we t_ gg_; have HE := Aside0.mk gg_; have HEB := Aside0.mk (t_.below HB5.out (by omega)); clear t_ gg_ H25 HB5 ))
      exact bodyPost_ret (results_ct rfl _ _ s0 42 (nums .i64 (List.replicate 24 0)).toArray (0, 0) _ rfl HE.out Try.underlying42 rfl (by kernel_rfl)) rfl ⟨rfl, HEB.out⟩
    have ER := Aside0.mk (show spec_EncodeInode.f ra = some (inodeBytes ra, 0) by unfold spec_EncodeInode.f; rw [if_pos hg])
    have hs0 : ((strOfNums (inodeBytes ra)).toList == (strOfNums l0).toList) = decide (inodeBytes ra = l0) := strOf_eq (inodeBytes_byt ra) HBY.out
    by_cases he : inodeBytes ra = l0
    case neg =>
      have hd : decI ra l0 = (List.replicate 24 0, 21) := by unfold decI; rw [if_neg (fun h_ => he h_.2.2)]
      rw [hd] at h
      simp only [Prod.mk.injEq] at h
      obtain ⟨rfl, rfl⟩ := h
      clear hd
      rw [decide_eq_false he] at hs0
      clear hg he
      obtain ⟨rb, hrb⟩ : ∃ b, b = inodeBytes ra := ⟨_, rfl⟩
      rw [← hrb] at ER hs0
      clear hrb
      go_wp2_with (first | ((with_reducible refine gate_store (t := 42) (p := 4) (v := .tmp 42) rfl ?_); refine hx_store rfl rfl 42 (.tmp 4) (.tmp 42) rfl g32_ 24 rfl (nums .i64 ra).toArray rfl (by kernel_rfl) (nums_size _ _ _ NL.out) (nums_one _ _) N32.out (by simp [nums]) ?_; intro w4 t_ gg_; have HG4 := Aside0.mk gg_; have H2_3 := Aside0.mk (t_.keep (show s0 ≠ g32_ by omega) H2_2.out); have HB4 := Aside0.mk (t_.below HB2.out (by omega)); clear t_ gg_ N32 HB2 H2_2) | ((with_reducible refine gate_dst (N := 44) rfl ?_); refine hx_load rfl 42 (.tmp 4) rfl g32_ 24 rfl Try.underlying42 rfl (by kernel_rfl) HG4.out (nums_size _ _ _ NL.out) ?_) | ((with_reducible refine gate_dst (N := 45) rfl ?_); refine goesL_ (some 45) rfl rfl Try.func21 (by kernel_rfl) rfl #[.agg (nums .i64 ra).toArray] rfl (by (try simp only [List.map_toArray, List.map_cons, List.map_nil]); first | done | rfl) ?_; refine (spec_EncodeInode.calls ra NL.out rb 0 _ ER.out).mono ?_; rintro e_ w5 ⟨v0_, rfl, R_, b_⟩; obtain ⟨Ab, cb, rfl⟩ := Kd.R_slice R_; refine ⟨_, rfl, ?_⟩; have HG5 := Aside0.mk (blk_below HG4.out b_); have H25 := Aside0.mk (blk_below H2_3.out b_); have HB5 := Aside0.mk (below_then HB4.out HB4.out.size b_); have hcv1 := Kd.C_string (P := Try.prog) (A := Ab) (c := cb) Try.underlying25 Try.underlying5 Try.underlying9 (Kd.R_reads' R_).2.2; have hcv2 := Kd.C_string (P := Try.prog) (A := (some ad)) (c := c0) Try.underlying25 Try.underlying5 Try.underlying9 (Kd.C_below HR0.out HB5.out); clear b_ R_ HG4 H2_3 HB4) | ((with_reducible refine gate_store (t := 42) (p := 2) (v := .tmp 57) rfl ?_); refine hx_store rfl rfl 42 (.tmp 2) (.tmp 57) rfl s0 24 rfl (nums .i64 (List.replicate 24 0)).toArray rfl (by kernel_rfl) (by kernel_rfl) (nums_one _ _) H25.out (by simp [nums]) ?_; intro we t_ gg_; have HE := Aside0.mk gg_; have HEB := Aside0.mk (t_.below HB5.out (by omega)); clear t_ gg_ H25 HB5 ))
      exact bodyPost_ret (results_ct rfl _ _ s0 42 (nums .i64 (List.replicate 24 0)).toArray (0, 0) _ rfl HE.out Try.underlying42 rfl (by kernel_rfl)) rfl ⟨rfl, HEB.out⟩
    have hd : decI ra l0 = (ra, 0) := by unfold decI; rw [if_pos ⟨HL.out, hg, he⟩]
    rw [hd] at h
    simp only [Prod.mk.injEq] at h
    obtain ⟨rfl, rfl⟩ := h
    rw [decide_eq_true he] at hs0
    clear hd hg he
    obtain ⟨rb, hrb⟩ : ∃ b, b = inodeBytes ra := ⟨_, rfl⟩
    rw [← hrb] at ER hs0
    clear hrb
    go_wp2_with (first | ((with_reducible refine gate_store (t := 42) (p := 4) (v := .tmp 42) rfl ?_); refine hx_store rfl rfl 42 (.tmp 4) (.tmp 42) rfl g32_ 24 rfl (nums .i64 ra).toArray rfl (by kernel_rfl) (nums_size _ _ _ NL.out) (nums_one _ _) N32.out (by simp [nums]) ?_; intro w4 t_ gg_; have HG4 := Aside0.mk gg_; have H2_3 := Aside0.mk (t_.keep (show s0 ≠ g32_ by omega) H2_2.out); have HB4 := Aside0.mk (t_.below HB2.out (by omega)); clear t_ gg_ N32 HB2 H2_2) | ((with_reducible refine gate_dst (N := 44) rfl ?_); refine hx_load rfl 42 (.tmp 4) rfl g32_ 24 rfl Try.underlying42 rfl (by kernel_rfl) HG4.out (nums_size _ _ _ NL.out) ?_) | ((with_reducible refine gate_dst (N := 45) rfl ?_); refine goesL_ (some 45) rfl rfl Try.func21 (by kernel_rfl) rfl #[.agg (nums .i64 ra).toArray] rfl (by (try simp only [List.map_toArray, List.map_cons, List.map_nil]); first | done | rfl) ?_; refine (spec_EncodeInode.calls ra NL.out rb 0 _ ER.out).mono ?_; rintro e_ w5 ⟨v0_, rfl, R_, b_⟩; obtain ⟨Ab, cb, rfl⟩ := Kd.R_slice R_; refine ⟨_, rfl, ?_⟩; have HG5 := Aside0.mk (blk_below HG4.out b_); have H25 := Aside0.mk (blk_below H2_3.out b_); have HB5 := Aside0.mk (below_then HB4.out HB4.out.size b_); have hcv1 := Kd.C_string (P := Try.prog) (A := Ab) (c := cb) Try.underlying25 Try.underlying5 Try.underlying9 (Kd.R_reads' R_).2.2; have hcv2 := Kd.C_string (P := Try.prog) (A := (some ad)) (c := c0) Try.underlying25 Try.underlying5 Try.underlying9 (Kd.C_below HR0.out HB5.out); clear b_ R_ HG4 H2_3 HB4) | ((with_reducible refine gate_dst (N := 58) rfl ?_); refine hx_load rfl 42 (.tmp 4) rfl g32_ 24 rfl Try.underlying42 rfl (by kernel_rfl) HG5.out (nums_size _ _ _ NL.out) ?_) | ((with_reducible refine gate_store (t := 42) (p := 2) (v := .tmp 58) rfl ?_); refine hx_store rfl rfl 42 (.tmp 2) (.tmp 58) rfl s0 24 rfl (nums .i64 ra).toArray rfl (by kernel_rfl) (nums_size _ _ _ NL.out) (nums_one _ _) H25.out (by simp [nums]) ?_; intro we t_ gg_; have HE := Aside0.mk gg_; have HEB := Aside0.mk (t_.below HB5.out (by omega)); clear t_ gg_ H25 HB5 ))
    exact bodyPost_ret (results_ct rfl _ _ s0 42 (nums .i64 ra).toArray (0, 0) _ rfl HE.out Try.underlying42 rfl (by rw [nums_size _ _ _ NL.out]; kernel_rfl)) rfl ⟨rfl, HEB.out⟩

open Go.Proofs.YtkghgjehjchajaaW Go.Proofs.YtkghgjehjchajaaW.PrintHand Go.Proofs.YtkghgjehjchajaaW.PrintHx
/-! ### spec_l05Last: function 57 -/
open Go.Proofs.YtkghgjehjchajaaW.PrintLe Go.Proofs.YtkghgjehjchajaaW.PrintIno Go.Proofs.YtkghgjehjchajaaW.PrintTabl
def spec_l05Last.f (l0 : List (List Int)) : Option Int := some (lastOf l0)
set_option maxHeartbeats 8000000 in
set_option maxRecDepth 100000 in
theorem spec_l05Last.calls (A0 : Option Addr) (c0 : Nat) (l0 : List (List Int)) (r : Int) (w : World) (hr0 : Kd.C (PrintHx.wide 24) w A0 l0.length l0) (hc0 : l0.length ≤ c0) (h : spec_l05Last.f l0 = some r) :
    Calls Try.prog 57 #[.slice A0 l0.length c0] w fun e w' => e = .returned (.int .i64 r) ∧ Below w.heap.size w w' := by
  have HLEN := Aside0.mk (show l0.length ≤ 9223372036854775807 from hr0.2.1)
  have HR0 := Aside0.mk hr0
  obtain rfl := Option.some.inj h
  clear hr0 hc0 h
  have Z42 : ∀ w, (zeroValue 42).run Try.prog w = .ok (.agg (nums .i64 (List.replicate 24 0)).toArray) w := fun _ => by kernel_rfl
  go_enter Try.func57, Try.ntmps57
  go_wp2
  (try simp only [Act.put, List.setIfInBounds_toArray, List.set_cons_succ, List.set_cons_zero])
  go_loopw [3, 4, 5, 8] (fun v3 v4 v5 v8 wr => ∃ (j : Nat) (u4 u5 : Value), u4 = v4 ∧ u5 = v5 ∧ v8 = .int .i64 (j : Int) ∧ v3 = .int .i64 (lastK l0 j) ∧ Aside0 (j ≤ l0.length) ∧ Aside0 (Below w.heap.size w wr)) (fun _ _ _ v8 _ => l0.length - (intOf v8).toNat)
  case atStart => exact ⟨0, _, _, rfl, rfl, rfl, rfl, ⟨Nat.zero_le _⟩, ⟨Below.refl _ _⟩⟩
  case round =>
    obtain ⟨j, v4, v5, rfl, rfl, rfl, rfl, hj, HB⟩ := hrel
    obtain ⟨sj, Szj⟩ : ∃ s, Aside0 (wr.heap.size = s) := ⟨_, ⟨rfl⟩⟩
    have hle_ : w.heap.size ≤ sj := by rw [← Szj.out]; exact HB.out.size
    by_cases c9 : j < l0.length
    · have c9b0 : decide ((j : Int) < (l0.length : Int)) = true := decide_eq_true (by omega)
      have c9b1 : decide (j < l0.length) = true := decide_eq_true c9
      obtain ⟨ad, ea, hl, hc⟩ := wide_at (Kd.C_below HR0.out HB.out) j c9
      subst ea
      obtain ⟨x, hx⟩ : ∃ x, x = l0.getD j [] := ⟨_, rfl⟩
      rw [← hx] at hl hc
      obtain ⟨x0, hx0⟩ : ∃ x0, x0 = x.getD 0 0 := ⟨_, rfl⟩
      have HX := Aside0.mk hx
      have HX0 := Aside0.mk hx0
      have HL := Aside0.mk hl
      have HC := Aside0.mk hc
      clear hx hx0 hl hc
      have q3 : ((j : Int) < (l0.length : Int)) = True := eq_true (by omega)
      have q4 : (0 ≤ (j : Int)) = True := eq_true (by omega)
      have q5 : (j < l0.length) = True := eq_true c9
      have C9 := Aside0.mk c9
      clear c9
      obtain ⟨la, hla⟩ : ∃ a, a = lastK l0 j := ⟨_, rfl⟩
      rw [← hla]
      have HLA := Aside0.mk hla
      clear hla
      by_cases c10 : x0 = 0
      · have c10b : (x0 != 0) = false := by rw [c10]; rfl
        have HK := Aside0.mk (show lastK l0 (j + 1) = la by rw [lastK, ← HX.out, ← HX0.out, if_pos c10, HLA.out])
        clear c10
        go_wp2_with (first | ((with_reducible refine gate_dst (N := 12) rfl ?_); refine hx_load_at rfl 42 (.tmp 11) rfl (ad.add (j * 24)) rfl x 24 Try.underlying42 rfl (by kernel_rfl) HL.out (fun i hi => by rw [Addr.add_add]; exact HC.out i hi) ?_) | ((with_reducible refine gate_dst (N := 5) rfl ?_); refine hx_alloc rfl 5 rfl 42 rfl Szj (.agg (nums .i64 (List.replicate 24 0)).toArray) (nums .i64 (List.replicate 24 0)).toArray Z42 rfl ?_; intro w1 s1 Ls1 Ss1 b_ g_; have HA := Aside0.mk g_; have HB1 := Aside0.mk (below_then HB.out HB.out.size b_); clear b_ g_ HB) | ((with_reducible refine gate_store (t := 42) (p := 5) (v := .tmp 12) rfl ?_); refine hx_store rfl rfl 42 (.tmp 5) (.tmp 12) rfl sj 24 rfl (nums .i64 x).toArray rfl (by kernel_rfl) (nums_size _ _ _ HL.out) (nums_one _ _) HA.out (by simp [nums]) ?_; intro w2 t_ gg_; have HX1 := Aside0.mk gg_; have HB2 := Aside0.mk (t_.below HB1.out (by omega)); clear t_ gg_ HA HB1 ; have c0_ : w2.cell? ⟨sj, 0, none⟩ = some (.int .i64 x0) := by (have h_ := row_cell HX1.out 0 (by rw [HL.out]; decide); rw [← HX0.out] at h_; exact h_)))
        go_roundw
        case rel => exact ⟨j + 1, _, _, rfl, rfl, by rw [show wrap64 ((j : Int) + 1) = ((j + 1 : Nat) : Int) by (have := HLEN.out; have := C9.out; unfold wrap64; omega)], by rw [HK.out], ⟨by have := C9.out; omega⟩, HB2⟩
        case measure =>
          rw [show wrap64 ((j : Int) + 1) = ((j + 1 : Nat) : Int) by (have := HLEN.out; have := C9.out; unfold wrap64; omega)]
          simp only [intOf, Int.toNat_natCast]
          have := C9.out
          omega
      · have c10b : (x0 != 0) = true := bne_iff_ne.2 c10
        have HK := Aside0.mk (show lastK l0 (j + 1) = (j : Int) by rw [lastK, ← HX.out, ← HX0.out, if_neg c10])
        clear c10
        go_wp2_with (first | ((with_reducible refine gate_dst (N := 12) rfl ?_); refine hx_load_at rfl 42 (.tmp 11) rfl (ad.add (j * 24)) rfl x 24 Try.underlying42 rfl (by kernel_rfl) HL.out (fun i hi => by rw [Addr.add_add]; exact HC.out i hi) ?_) | ((with_reducible refine gate_dst (N := 5) rfl ?_); refine hx_alloc rfl 5 rfl 42 rfl Szj (.agg (nums .i64 (List.replicate 24 0)).toArray) (nums .i64 (List.replicate 24 0)).toArray Z42 rfl ?_; intro w1 s1 Ls1 Ss1 b_ g_; have HA := Aside0.mk g_; have HB1 := Aside0.mk (below_then HB.out HB.out.size b_); clear b_ g_ HB) | ((with_reducible refine gate_store (t := 42) (p := 5) (v := .tmp 12) rfl ?_); refine hx_store rfl rfl 42 (.tmp 5) (.tmp 12) rfl sj 24 rfl (nums .i64 x).toArray rfl (by kernel_rfl) (nums_size _ _ _ HL.out) (nums_one _ _) HA.out (by simp [nums]) ?_; intro w2 t_ gg_; have HX1 := Aside0.mk gg_; have HB2 := Aside0.mk (t_.below HB1.out (by omega)); clear t_ gg_ HA HB1 ; have c0_ : w2.cell? ⟨sj, 0, none⟩ = some (.int .i64 x0) := by (have h_ := row_cell HX1.out 0 (by rw [HL.out]; decide); rw [← HX0.out] at h_; exact h_)))
        go_roundw
        case rel => exact ⟨j + 1, _, _, rfl, rfl, by rw [show wrap64 ((j : Int) + 1) = ((j + 1 : Nat) : Int) by (have := HLEN.out; have := C9.out; unfold wrap64; omega)], by rw [HK.out], ⟨by have := C9.out; omega⟩, HB2⟩
        case measure =>
          rw [show wrap64 ((j : Int) + 1) = ((j + 1 : Nat) : Int) by (have := HLEN.out; have := C9.out; unfold wrap64; omega)]
          simp only [intOf, Int.toNat_natCast]
          have := C9.out
          omega
    · obtain rfl : j = l0.length := by have := hj.out; omega
      have c9b0 : decide ((l0.length : Int) < (l0.length : Int)) = false := decide_eq_false (by omega)
      have c9b1 : decide (l0.length < l0.length) = false := decide_eq_false c9
      clear c9
      by_cases c11 : lastK l0 l0.length < 1
      · have c11b : decide (lastK l0 l0.length < 1) = true := decide_eq_true c11
        have hr_ : lastOf l0 = 1 := if_pos c11
        clear c11
        go_wp2
        go_ret
        exact ⟨by rw [hr_]; rfl, HB.out⟩
      · have c11b : decide (lastK l0 l0.length < 1) = false := decide_eq_false c11
        have hr_ : lastOf l0 = lastK l0 l0.length := if_neg c11
        clear c11
        go_wp2
        go_ret
        exact ⟨by rw [hr_]; rfl, HB.out⟩

end Go.Proofs.Ytkghgjehjchajaa.PFnExactDecodeTable
