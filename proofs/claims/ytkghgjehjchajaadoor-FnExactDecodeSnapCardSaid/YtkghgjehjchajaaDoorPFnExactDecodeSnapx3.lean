-- Written by a program of this session (patch_print.py over the kit print)
import Derived.Test.YtkghgjehjchajaaDoorPFnExactDecodeSnapx0
import Derived.Test.YtkghgjehjchajaaDoorPFnExactDecodeSnapx1
import Derived.Test.YtkghgjehjchajaaDoorPFnExactDecodeSnapx2
namespace Go.Proofs.YtkghgjehjchajaaDoor.PFnExactDecodeSnap
open Go.RowKit Go.Proofs.YtkghgjehjchajaaDoorW.PrintWords Go.Proofs.YtkghgjehjchajaaDoorW.PrintLast Go.Proofs.YtkghgjehjchajaaDoorW.PrintMore
attribute [local go_sem] max2_int min2_int max_two min_two max_three min_three max_four min_four   -- for this text's walks alone
set_option linter.unusedVariables false
set_option linter.unusedSimpArgs false

open Go.Proofs.YtkghgjehjchajaaDoorW Go.Proofs.YtkghgjehjchajaaDoorW.PrintHand Go.Proofs.YtkghgjehjchajaaDoorW.PrintHx
/-! ### impl_getSnap: function 54 -/
open Go.Proofs.YtkghgjehjchajaaDoorW.PrintLe Go.Proofs.YtkghgjehjchajaaDoorW.PrintGrow Go.Proofs.YtkghgjehjchajaaDoorW.PrintDec Go.Proofs.YtkghgjehjchajaaDoorW.PrintIno Go.Proofs.YtkghgjehjchajaaDoorW.PrintTab2 Go.Proofs.YtkghgjehjchajaaDoorW.PrintTab3 Go.Proofs.YtkghgjehjchajaaDoorW.PrintFsi Go.Proofs.YtkghgjehjchajaaDoorW.PrintFsb Go.Proofs.YtkghgjehjchajaaDoorW.PrintFsd Go.Proofs.YtkghgjehjchajaaDoorW.PrintCrc Go.Proofs.YtkghgjehjchajaaDoorW.PrintSnp Go.Proofs.YtkghgjehjchajaaDoorW.PrintSnd
set_option maxHeartbeats 8000000 in
set_option maxRecDepth 100000 in
theorem impl_getSnap.calls (A0 : Option Addr) (c0 : Nat) (l0 : List Int) (x : Int) (s : ByteArray) (p q : Int) (r : List Int) (w : World) (hr0 : Kd.C (Kd.int .u8) w A0 l0.length l0) (hc0 : l0.length ≤ c0) (hl : l0.length = 512) (hby : Byt l0) (hx : x = l0.getD 8 0) (hs : s = nameS l0) (hp : p = wrap64 (le (seg l0 40 8))) (hq : q = wrap64 (le (seg l0 48 8))) (hrr : r = rootB (seg l0 56 64)) :
    Calls Tryd.prog 54 #[.slice A0 l0.length c0] w fun e w' => e = .returned (.agg (snapC x s p q r).toArray) ∧ Below w.heap.size w w' := by
  have HL := Aside0.mk hl
  have HBY := Aside0.mk hby
  have HR0 := Aside0.mk hr0
  have HC0 := Aside0.mk hc0
  have HS := Aside0.mk hs
  have Z33 : ∀ w, (zeroValue 33).run Tryd.prog w = .ok (.agg (snapC 0 ByteArray.empty 0 0 (List.replicate 15 0)).toArray) w := fun _ => by kernel_rfl
  have EG8 := Aside0.mk (show impl_number.f 20 l0 8 1 = some x by rw [hx, ← (one_byte hby 8 (by omega)).1]; exact number_f l0 8 1 hby (by decide) (by omega) (by omega) 20 (by decide))
  obtain ⟨v9, h9⟩ : ∃ v, v = l0.getD 9 0 := ⟨_, rfl⟩
  have EG9 := Aside0.mk (show impl_number.f 20 l0 9 1 = some v9 by rw [h9, ← (one_byte hby 9 (by omega)).1]; exact number_f l0 9 1 hby (by decide) (by omega) (by omega) 20 (by decide))
  have EG40 := Aside0.mk (show impl_number.f 20 l0 40 8 = some p by rw [hp]; exact number_f l0 40 8 hby (by decide) (by omega) (by omega) 20 (by decide))
  have EG48 := Aside0.mk (show impl_number.f 20 l0 48 8 = some q by rw [hq]; exact number_f l0 48 8 hby (by decide) (by omega) (by omega) 20 (by decide))
  obtain ⟨m, hm⟩ : ∃ m, m = nameLen l0 := ⟨_, rfl⟩
  have hm26 : m ≤ 26 := by rw [hm]; exact nameLen_le l0
  have EM := Aside0.mk (show (if 26 < v9 then 26 else v9) = (m : Int) by rw [h9, hm]; exact name_min (one_byte hby 9 (by omega)).2.1)
  have EW := Aside0.mk (show wrap64 (10 + (m : Int)) = ((10 + m : Nat) : Int) by unfold wrap64; omega)
  have info5_ : (Tryd.prog.info? 5).map (fun i => (i.zero, i.size, i.bytes)) = some (some (.int .u8 0), 1, 1) := by kernel_rfl
  obtain ⟨i0_, hi0_, _, hsz_, _⟩ := info_parts info5_
  obtain ⟨A10, hcut10, hA10, hC10⟩ := print_mid_of (P := Tryd.prog) (Value.int .u8) 0 28 5 .i64 .i64 Tryd.underlying28 hi0_ hsz_ A0 c0 l0 (10 : Int) ((10 + m : Nat) : Int) (by decide) (by omega) (by rw [hl]; omega) hc0
  obtain ⟨q10, hq10⟩ : ∃ q, q = (l0.take (((10 + m : Nat) : Int)).toNat).drop (10 : Int).toNat := ⟨_, rfl⟩
  rw [← hq10] at hcut10 hA10 hC10
  obtain ⟨k10, hk10⟩ : ∃ k, k = c0 - (10 : Int).toNat := ⟨_, rfl⟩
  rw [← hk10] at hcut10 hC10
  clear hk10
  have HSQ := Aside0.mk (show strOfNums q10 = s by rw [hs, nameS, hq10, ← hm, Int.toNat_natCast, show (10 : Int).toNat = 10 from rfl, take_drop, show 10 + m - 10 = m by omega])
  have HR10 := Aside0.mk (Kd.C_of_reads (h1 := fun _ => rfl) (hA10 _ (Kd.reads_of_C hr0)))
  have HC10 := Aside0.mk hC10
  obtain ⟨A17, hcut17, hA17, hC17⟩ := print_drop_of (P := Tryd.prog) (Value.int .u8) 0 28 5 .i64 Tryd.underlying28 hi0_ hsz_ A0 c0 l0 (56 : Int) (by decide) (by rw [hl]; decide) hc0
  obtain ⟨q17, hq17⟩ : ∃ q, q = l0.drop (56 : Int).toNat := ⟨_, rfl⟩
  rw [← hq17] at hcut17 hA17 hC17
  obtain ⟨k17, hk17⟩ : ∃ k, k = c0 - (56 : Int).toNat := ⟨_, rfl⟩
  rw [← hk17] at hcut17 hC17
  clear hk17
  have hs17 : q17 = l0.drop 56 := hq17
  have HR17 := Aside0.mk (Kd.C_of_reads (h1 := fun _ => rfl) (hA17 _ (Kd.reads_of_C hr0)))
  have HC17 := Aside0.mk hC17
  have NR := Aside0.mk (show r.length = 15 by rw [hrr]; exact rootOf_length _ _)
  have EG56 := Aside0.mk (show impl_getRoot.f q17 = some r by rw [hrr, hs17, show rootB (seg l0 56 64) = rootB (l0.drop 56) from rootOf_part _ l0 56]; exact if_pos ⟨⟨by rw [List.length_drop, hl]; decide, by rw [List.length_drop, hl]; decide⟩, hby.drop 56⟩)
  clear hs17 hq17 hA17 hC17 hq10 hA10 hC10 hm26 hm h9 hx hs hp hq hrr hl hby hr0 hc0
  have BU : ∀ z : List Int, z.length = 15 → ∀ w, (Instr.build 33 #[(0, .int .i64 x), (1, .string s), (2, .int .i64 p), (3, .int .i64 q), (4, .agg (nums .i64 z).toArray)]).run Tryd.prog w = .ok (.agg (snapC x s p q z).toArray) w := by
    intro z h w_
    obtain ⟨x0, b0, rfl, h0⟩ := cons_of_len h
    obtain ⟨x1, b1, rfl, h1⟩ := cons_of_len h0
    obtain ⟨x2, b2, rfl, h2⟩ := cons_of_len h1
    obtain ⟨x3, b3, rfl, h3⟩ := cons_of_len h2
    obtain ⟨x4, b4, rfl, h4⟩ := cons_of_len h3
    obtain ⟨x5, b5, rfl, h5⟩ := cons_of_len h4
    obtain ⟨x6, b6, rfl, h6⟩ := cons_of_len h5
    obtain ⟨x7, b7, rfl, h7⟩ := cons_of_len h6
    obtain ⟨x8, b8, rfl, h8⟩ := cons_of_len h7
    obtain ⟨x9, b9, rfl, h9⟩ := cons_of_len h8
    obtain ⟨x10, b10, rfl, h10⟩ := cons_of_len h9
    obtain ⟨x11, b11, rfl, h11⟩ := cons_of_len h10
    obtain ⟨x12, b12, rfl, h12⟩ := cons_of_len h11
    obtain ⟨x13, b13, rfl, h13⟩ := cons_of_len h12
    obtain ⟨x14, b14, rfl, h14⟩ := cons_of_len h13
    obtain rfl := List.length_eq_zero_iff.mp h14
    exact run_build w_ 33 _ _ (by kernel_rfl)
  replace BU := BU r NR.out
  have BU_ := Aside0.mk BU
  clear BU
  have HB0 : Aside0 (Below w.heap.size w w) := ⟨Below.refl _ _⟩
  obtain ⟨s0, Sz0⟩ : ∃ s0, Aside0 (w.heap.size = s0) := ⟨_, ⟨rfl⟩⟩
  have hw0 : w.heap.size ≤ s0 := Nat.le_of_eq Sz0.out
  have hw1 : s0 ≤ w.heap.size := Nat.le_of_eq Sz0.out.symm
  go_enter Tryd.func54, Tryd.ntmps54
  go_wp2_with (first | ((with_reducible refine gate_dst (N := 2) rfl ?_); refine hx_alloc rfl 2 rfl 33 rfl Sz0 (.agg (snapC 0 ByteArray.empty 0 0 (List.replicate 15 0)).toArray) (snapC 0 ByteArray.empty 0 0 (List.replicate 15 0)).toArray Z33 (by simp [Value.cells]) ?_; intro w1 s1 Ls1 Ss1 b_ g_; have H2 := Aside0.mk g_; have HB1 := Aside0.mk (below_then HB0.out HB0.out.size b_); clear b_ g_ HB0))
  refine wp_region_grow_last 17 [Is (.slice A0 l0.length c0), Is (.int .i64 x), Is (.slice A0 l0.length c0), Is (.slice A0 l0.length c0), Is (.int .i64 v9), Is (.int .i64 (m : Int)), Is (.int .i64 ((10 + m : Nat) : Int)), Is (.slice A10 q10.length k10), Is (.string s), Is (.slice A0 l0.length c0), Is (.int .i64 p), Is (.slice A0 l0.length c0), Is (.int .i64 q), Is (.slice A0 l0.length c0), Is (.slice A17 q17.length k17), Is (.agg (nums .i64 r).toArray), Is (.agg (snapC x s p q r).toArray)] (by kernel_rfl) (by kernel_rfl) (by kernel_rfl) (by kernel_rfl) (allst_cons st_is (allst_cons st_is (allst_cons st_is (allst_cons st_is (allst_cons st_is (allst_cons st_is (allst_cons st_is (allst_cons st_is (allst_cons st_is (allst_cons st_is (allst_cons st_is (allst_cons st_is (allst_cons st_is (allst_cons st_is (allst_cons st_is (allst_cons st_is (allst_cons st_is allst_nil))))))))))))))))) ?_ (fun w2 hgn => ?_)
  · refine steps_cons ?_ ?_
    · refine stepO_val rfl [] [0] (by kernel_rfl) (.slice A0 l0.length c0) (fun a w_ hg hf => ?_) (fun w_ _ => rfl)
      obtain ⟨_, ⟨o0, _⟩⟩ := hf
      have e0 : a.tmps[0]? = some (.slice A0 l0.length c0) := o0.trans rfl
      unfold execOp
      simp only [PrintLast.eval_of e0]
      rfl
    refine steps_cons ?_ ?_
    · refine stepO_call rfl [(0, 3)] [] (by kernel_rfl) Tryd.func84 (by kernel_rfl) rfl rfl (fun a w_ hg hf => ?_)
      obtain ⟨⟨⟨_, e3, rfl⟩, _⟩, _⟩ := hf
      replace e3 : a.tmps[3]? = some (.slice A0 l0.length c0) := e3
      refine ⟨#[.slice A0 l0.length c0, .int .i64 8, .int .i64 1], (by simp only [List.map_toArray, List.map_cons, List.map_nil, PrintLast.eval_of e3]; first | done | rfl), (impl_number.calls 20 A0 c0 l0 8 1 x w_ (Kd.C_below HR0.out (below_then HB1.out HB1.out.size hg)) HC0.out EG8.out).mono ?_⟩
      rintro e_ w2_ ⟨rfl, d_⟩
      have b_ := kept_drawn d_
      exact ⟨_, rfl, b_, rfl⟩
    refine steps_cons ?_ ?_
    · refine stepO_val rfl [] [0] (by kernel_rfl) (.slice A0 l0.length c0) (fun a w_ hg hf => ?_) (fun w_ _ => rfl)
      obtain ⟨_, ⟨o0, _⟩⟩ := hf
      have e0 : a.tmps[0]? = some (.slice A0 l0.length c0) := o0.trans rfl
      unfold execOp
      simp only [PrintLast.eval_of e0]
      rfl
    refine steps_cons ?_ ?_
    · refine stepO_val rfl [] [0] (by kernel_rfl) (.slice A0 l0.length c0) (fun a w_ hg hf => ?_) (fun w_ _ => rfl)
      obtain ⟨_, ⟨o0, _⟩⟩ := hf
      have e0 : a.tmps[0]? = some (.slice A0 l0.length c0) := o0.trans rfl
      unfold execOp
      simp only [PrintLast.eval_of e0]
      rfl
    refine steps_cons ?_ ?_
    · refine stepO_call rfl [(3, 6)] [] (by kernel_rfl) Tryd.func84 (by kernel_rfl) rfl rfl (fun a w_ hg hf => ?_)
      obtain ⟨⟨⟨_, e6, rfl⟩, _⟩, _⟩ := hf
      replace e6 : a.tmps[6]? = some (.slice A0 l0.length c0) := e6
      refine ⟨#[.slice A0 l0.length c0, .int .i64 9, .int .i64 1], (by simp only [List.map_toArray, List.map_cons, List.map_nil, PrintLast.eval_of e6]; first | done | rfl), (impl_number.calls 20 A0 c0 l0 9 1 v9 w_ (Kd.C_below HR0.out (below_then HB1.out HB1.out.size hg)) HC0.out EG9.out).mono ?_⟩
      rintro e_ w2_ ⟨rfl, d_⟩
      have b_ := kept_drawn d_
      exact ⟨_, rfl, b_, rfl⟩
    refine steps_cons ?_ ?_
    · refine stepO_val rfl [(4, 7)] [] (by kernel_rfl) (.int .i64 (m : Int)) (fun a w_ hg hf => ?_) (fun w_ _ => rfl)
      obtain ⟨⟨⟨_, e7, rfl⟩, _⟩, _⟩ := hf
      replace e7 : a.tmps[7]? = some (.int .i64 v9) := e7
      simp only [execOp, resolve, invoke, builtin, List.map_toArray, List.map_cons, List.map_nil, PrintLast.eval_of e7, Act.eval, Sem.run_bind, Sem.run_pure, Result.andThen_ok, run_min_int2]
      simp [e7, run_min_int2, Result.andThen]
      exact EM.out
    refine steps_cons ?_ ?_
    · refine stepO_val rfl [(5, 8)] [] (by kernel_rfl) (.int .i64 ((10 + m : Nat) : Int)) (fun a w_ hg hf => ?_) (fun w_ _ => rfl)
      obtain ⟨⟨⟨_, e8, rfl⟩, _⟩, _⟩ := hf
      replace e8 : a.tmps[8]? = some (.int .i64 (m : Int)) := e8
      unfold execOp
      simp only [PrintLast.eval_of e8, Act.eval]
      go_simp
      (try (have e_ := EW.out; rw [← PrintLast.i64_w, Int.natCast_add] at e_; exact e_))
      (try rfl)
    refine steps_cons ?_ ?_
    · refine stepO_val rfl [(2, 5), (6, 9)] [] (by kernel_rfl) (.slice A10 q10.length k10) (fun a w_ hg hf => ?_) (fun w_ _ => rfl)
      obtain ⟨⟨⟨_, e5, rfl⟩, ⟨_, e9, rfl⟩, _⟩, _⟩ := hf
      replace e5 : a.tmps[5]? = some (.slice A0 l0.length c0) := e5
      replace e9 : a.tmps[9]? = some (.int .i64 ((10 + m : Nat) : Int)) := e9
      have hel_ : Tryd.prog.elem 28 = 5 := by simp [Program.elem, Tryd.underlying28]
      have hsl_ := run_sliceAt_slice (P := Tryd.prog) (w := w_) 28 (.slice A0 l0.length c0) (some (.int .i64 10)) (some (.int .i64 ((10 + m : Nat) : Int))) none (by rw [hel_]; exact Tryd.underlying28)
      have hc_ : a.eval (.const (.int .i64 10)) = .int .i64 10 := rfl
      unfold execOp
      simp only [PrintLast.eval_of e5, PrintLast.eval_of e9, hc_, Option.map_some, Option.map_none, Sem.run_bind, hsl_, hcut10, Result.andThen_ok, Sem.run_pure]
    refine steps_cons ?_ ?_
    · refine stepO_val rfl [(7, 10)] [] (by kernel_rfl) (.string s) (fun a w_ hg hf => ?_) (fun w_ _ => rfl)
      obtain ⟨⟨⟨_, e10, rfl⟩, _⟩, _⟩ := hf
      replace e10 : a.tmps[10]? = some (.slice A10 q10.length k10) := e10
      have h_ := Kd.C_string (P := Tryd.prog) (A := A10) (c := k10) Tryd.underlying28 Tryd.underlying5 Tryd.underlying9 (Kd.C_below HR10.out (below_then HB1.out HB1.out.size hg))
      unfold execOp
      simp only [PrintLast.eval_of e10, Sem.run_bind, h_, Result.andThen_ok, Sem.run_pure]
      rw [HSQ.out]
    refine steps_cons ?_ ?_
    · refine stepO_val rfl [] [0] (by kernel_rfl) (.slice A0 l0.length c0) (fun a w_ hg hf => ?_) (fun w_ _ => rfl)
      obtain ⟨_, ⟨o0, _⟩⟩ := hf
      have e0 : a.tmps[0]? = some (.slice A0 l0.length c0) := o0.trans rfl
      unfold execOp
      simp only [PrintLast.eval_of e0]
      rfl
    refine steps_cons ?_ ?_
    · refine stepO_call rfl [(9, 12)] [] (by kernel_rfl) Tryd.func84 (by kernel_rfl) rfl rfl (fun a w_ hg hf => ?_)
      obtain ⟨⟨⟨_, e12, rfl⟩, _⟩, _⟩ := hf
      replace e12 : a.tmps[12]? = some (.slice A0 l0.length c0) := e12
      refine ⟨#[.slice A0 l0.length c0, .int .i64 40, .int .i64 8], (by simp only [List.map_toArray, List.map_cons, List.map_nil, PrintLast.eval_of e12]; first | done | rfl), (impl_number.calls 20 A0 c0 l0 40 8 p w_ (Kd.C_below HR0.out (below_then HB1.out HB1.out.size hg)) HC0.out EG40.out).mono ?_⟩
      rintro e_ w2_ ⟨rfl, d_⟩
      have b_ := kept_drawn d_
      exact ⟨_, rfl, b_, rfl⟩
    refine steps_cons ?_ ?_
    · refine stepO_val rfl [] [0] (by kernel_rfl) (.slice A0 l0.length c0) (fun a w_ hg hf => ?_) (fun w_ _ => rfl)
      obtain ⟨_, ⟨o0, _⟩⟩ := hf
      have e0 : a.tmps[0]? = some (.slice A0 l0.length c0) := o0.trans rfl
      unfold execOp
      simp only [PrintLast.eval_of e0]
      rfl
    refine steps_cons ?_ ?_
    · refine stepO_call rfl [(11, 14)] [] (by kernel_rfl) Tryd.func84 (by kernel_rfl) rfl rfl (fun a w_ hg hf => ?_)
      obtain ⟨⟨⟨_, e14, rfl⟩, _⟩, _⟩ := hf
      replace e14 : a.tmps[14]? = some (.slice A0 l0.length c0) := e14
      refine ⟨#[.slice A0 l0.length c0, .int .i64 48, .int .i64 8], (by simp only [List.map_toArray, List.map_cons, List.map_nil, PrintLast.eval_of e14]; first | done | rfl), (impl_number.calls 20 A0 c0 l0 48 8 q w_ (Kd.C_below HR0.out (below_then HB1.out HB1.out.size hg)) HC0.out EG48.out).mono ?_⟩
      rintro e_ w2_ ⟨rfl, d_⟩
      have b_ := kept_drawn d_
      exact ⟨_, rfl, b_, rfl⟩
    refine steps_cons ?_ ?_
    · refine stepO_val rfl [] [0] (by kernel_rfl) (.slice A0 l0.length c0) (fun a w_ hg hf => ?_) (fun w_ _ => rfl)
      obtain ⟨_, ⟨o0, _⟩⟩ := hf
      have e0 : a.tmps[0]? = some (.slice A0 l0.length c0) := o0.trans rfl
      unfold execOp
      simp only [PrintLast.eval_of e0]
      rfl
    refine steps_cons ?_ ?_
    · refine stepO_val rfl [(13, 16)] [] (by kernel_rfl) (.slice A17 q17.length k17) (fun a w_ hg hf => ?_) (fun w_ _ => rfl)
      obtain ⟨⟨⟨_, e16, rfl⟩, _⟩, _⟩ := hf
      replace e16 : a.tmps[16]? = some (.slice A0 l0.length c0) := e16
      unfold execOp
      simp only [PrintLast.eval_of e16, Act.eval]
      go_simp
      (try rfl)
    refine steps_cons ?_ ?_
    · refine stepO_call rfl [(14, 17)] [] (by kernel_rfl) Tryd.func85 (by kernel_rfl) rfl rfl (fun a w_ hg hf => ?_)
      obtain ⟨⟨⟨_, e17, rfl⟩, _⟩, _⟩ := hf
      replace e17 : a.tmps[17]? = some (.slice A17 q17.length k17) := e17
      refine ⟨#[.slice A17 q17.length k17], (by simp only [List.map_toArray, List.map_cons, List.map_nil, PrintLast.eval_of e17]; first | done | rfl), (impl_getRoot.calls A17 k17 q17 r w_ (Kd.C_below HR17.out (below_then HB1.out HB1.out.size hg)) HC17.out EG56.out).mono ?_⟩
      rintro e_ w2_ ⟨rfl, b_⟩
      exact ⟨_, rfl, b_, rfl⟩
    refine steps_cons ?_ ?_
    · refine stepO_val rfl [(1, 4), (8, 11), (10, 13), (12, 15), (15, 18)] [] (by kernel_rfl) (.agg (snapC x s p q r).toArray) (fun a w_ hg hf => ?_) (fun w_ _ => rfl)
      obtain ⟨⟨⟨_, e4, rfl⟩, ⟨_, e11, rfl⟩, ⟨_, e13, rfl⟩, ⟨_, e15, rfl⟩, ⟨_, e18, rfl⟩, _⟩, _⟩ := hf
      replace e4 : a.tmps[4]? = some (.int .i64 x) := e4
      replace e11 : a.tmps[11]? = some (.string s) := e11
      replace e13 : a.tmps[13]? = some (.int .i64 p) := e13
      replace e15 : a.tmps[15]? = some (.int .i64 q) := e15
      replace e18 : a.tmps[18]? = some (.agg (nums .i64 r).toArray) := e18
      unfold execOp
      simp only [PrintLast.eval_of e4, PrintLast.eval_of e11, PrintLast.eval_of e13, PrintLast.eval_of e15, PrintLast.eval_of e18, List.map_toArray, List.map_cons, List.map_nil, Sem.run_bind, Sem.run_pure, Result.andThen_ok, BU_.out]
    exact steps_nil
  · skip
    refine ends_cons (fun v0_ p0_ => ?_)
    obtain rfl : v0_ = _ := p0_
    refine ends_cons (fun v1_ p1_ => ?_)
    obtain rfl : v1_ = _ := p1_
    refine ends_cons (fun v2_ p2_ => ?_)
    obtain rfl : v2_ = _ := p2_
    refine ends_cons (fun v3_ p3_ => ?_)
    obtain rfl : v3_ = _ := p3_
    refine ends_cons (fun v4_ p4_ => ?_)
    obtain rfl : v4_ = _ := p4_
    refine ends_cons (fun v5_ p5_ => ?_)
    obtain rfl : v5_ = _ := p5_
    refine ends_cons (fun v6_ p6_ => ?_)
    obtain rfl : v6_ = _ := p6_
    refine ends_cons (fun v7_ p7_ => ?_)
    obtain rfl : v7_ = _ := p7_
    refine ends_cons (fun v8_ p8_ => ?_)
    obtain rfl : v8_ = _ := p8_
    refine ends_cons (fun v9_ p9_ => ?_)
    obtain rfl : v9_ = _ := p9_
    refine ends_cons (fun v10_ p10_ => ?_)
    obtain rfl : v10_ = _ := p10_
    refine ends_cons (fun v11_ p11_ => ?_)
    obtain rfl : v11_ = _ := p11_
    refine ends_cons (fun v12_ p12_ => ?_)
    obtain rfl : v12_ = _ := p12_
    refine ends_cons (fun v13_ p13_ => ?_)
    obtain rfl : v13_ = _ := p13_
    refine ends_cons (fun v14_ p14_ => ?_)
    obtain rfl : v14_ = _ := p14_
    refine ends_cons (fun v15_ p15_ => ?_)
    obtain rfl : v15_ = _ := p15_
    refine ends_cons (fun v16_ p16_ => ?_)
    obtain rfl : v16_ = _ := p16_
    refine ends_nil ?_
    simp only [Act.put, List.setIfInBounds_toArray, List.set_cons_succ, List.set_cons_zero]
    have HB2 := Aside0.mk (below_then HB1.out HB1.out.size hgn)
    have H2_2 := Aside0.mk (blk_below H2.out hgn)
    clear hgn HB1 H2
    simp only [List.drop_succ_cons, List.drop_zero]
    go_wp2_with (first | ((with_reducible refine gate_store (t := 33) (p := 2) (v := .tmp 19) rfl ?_); refine hx_store rfl rfl 33 (.tmp 2) (.tmp 19) rfl s0 19 rfl (snapC x s p q r).toArray rfl (by kernel_rfl) (snapC_size NR.out) (snapC_one _ _ _ _ _) H2_2.out snapZ_size ?_; intro w3 t_ gg_; have HE := Aside0.mk gg_; have HEB := Aside0.mk (t_.below HB2.out (by omega)); clear t_ gg_ H2_2 HB2 ))
    exact bodyPost_ret (results_cell_row rfl _ _ s0 33 _ (0, 0) _ rfl HE.out Tryd.underlying33 rfl (by rw [snapC_size NR.out]; kernel_rfl)) rfl ⟨rfl, HEB.out⟩

/-! ### bytes_Equal: function 83 -/
def bytes_Equal.f (l0 : List Int) (l1 : List Int) : Option (Bool) := some ((strOfNums l0).toList == (strOfNums l1).toList)
set_option maxHeartbeats 8000000 in
set_option maxRecDepth 100000 in
theorem bytes_Equal.calls (A0 : Option Addr) (c0 : Nat) (l0 : List Int) (A1 : Option Addr) (c1 : Nat) (l1 : List Int) (r : Bool) (w : World) (hr0 : Kd.C (Kd.int .u8) w A0 l0.length l0) (hc0 : l0.length ≤ c0) (hr1 : Kd.C (Kd.int .u8) w A1 l1.length l1) (hc1 : l1.length ≤ c1) (h : bytes_Equal.f l0 l1 = some r) :
    Calls Tryd.prog 83 #[.slice A0 l0.length c0, .slice A1 l1.length c1] w fun e w' => e = .returned (.bool r) ∧ Drawn0 w w' := by
  have HR0 := Aside0.mk hr0
  have HC0 := Aside0.mk hc0
  clear hr0 hc0
  have HR1 := Aside0.mk hr1
  have HC1 := Aside0.mk hc1
  clear hr1 hc1
  have H : (some ((strOfNums l0).toList == (strOfNums l1).toList)) = some r := h
  clear h
  obtain rfl := Option.some.inj H
  have hcv3 := Kd.C_string (P := Tryd.prog) (A := A0) (c := c0) Tryd.underlying28 Tryd.underlying5 Tryd.underlying9 HR0.out
  have hcv4 := Kd.C_string (P := Tryd.prog) (A := A1) (c := c1) Tryd.underlying28 Tryd.underlying5 Tryd.underlying9 HR1.out
  go_enter Tryd.func83, Tryd.ntmps83
  go_wp2
  go_ret
  exact ⟨by first | rfl | (simp; done) | (simp [*]; done), by repeat (first | exact Drawn0.refl _ | apply Drawn0.step)⟩

open Go.Proofs.YtkghgjehjchajaaDoorW Go.Proofs.YtkghgjehjchajaaDoorW.PrintHand Go.Proofs.YtkghgjehjchajaaDoorW.PrintHx
/-! ### impl_Snap: function 53 -/
open Go.Proofs.YtkghgjehjchajaaDoorW.PrintLe Go.Proofs.YtkghgjehjchajaaDoorW.PrintGrow Go.Proofs.YtkghgjehjchajaaDoorW.PrintDec Go.Proofs.YtkghgjehjchajaaDoorW.PrintIno Go.Proofs.YtkghgjehjchajaaDoorW.PrintTab2 Go.Proofs.YtkghgjehjchajaaDoorW.PrintTab3 Go.Proofs.YtkghgjehjchajaaDoorW.PrintFsi Go.Proofs.YtkghgjehjchajaaDoorW.PrintFsb Go.Proofs.YtkghgjehjchajaaDoorW.PrintFsd Go.Proofs.YtkghgjehjchajaaDoorW.PrintCrc Go.Proofs.YtkghgjehjchajaaDoorW.PrintSnp Go.Proofs.YtkghgjehjchajaaDoorW.PrintSnd
set_option maxHeartbeats 8000000 in
set_option maxRecDepth 100000 in
theorem impl_Snap.calls (A0 : Option Addr) (c0 : Nat) (l0 : List Int) (k : Nat) (c : Int) (hck : impl_CheckName.f k (nameS l0) = some c) (hcz : c = 0 → (nameS l0).size ≤ 26) (x1 : Int) (s1 : ByteArray) (p1 q1 : Int) (r1 : List Int) (k1 : Int) (w : World) (hv : Kd.C (Kd.int .u8) w (some ⟨0, 0, none⟩) 8 magicS) (hr0 : Kd.C (Kd.int .u8) w A0 l0.length l0) (hc0 : l0.length ≤ c0) (hby : ∀ x ∈ l0, 0 ≤ x ∧ x ≤ 255) (h : snapB c l0 = (x1, s1, p1, q1, r1, k1)) :
    Calls Tryd.prog 53 #[.slice A0 l0.length c0, .int .i64 512, .func (.func 54) #[] #[], .func (.func 12) #[] #[]] w fun e w' => e = .returned (.tuple #[.agg (snapC x1 s1 p1 q1 r1).toArray, .int .i64 k1]) ∧ Below w.heap.size w w' := by
  unfold snapB at h
  have HV := Aside0.mk hv
  have HBY : Aside0 (Byt l0) := ⟨hby⟩
  have HR0 := Aside0.mk hr0
  have HC0 := Aside0.mk hc0
  have HCK := Aside0.mk hck
  have HCZ := Aside0.mk hcz
  clear hv hby hr0 hc0 hck hcz
  have Z33 : ∀ w, (zeroValue 33).run Tryd.prog w = .ok (.agg (snapC 0 ByteArray.empty 0 0 (List.replicate 15 0)).toArray) w := fun _ => by kernel_rfl
  have HB0 : Aside0 (Below w.heap.size w w) := ⟨Below.refl _ _⟩
  obtain ⟨s0, Sz0⟩ : ∃ s0, Aside0 (w.heap.size = s0) := ⟨_, ⟨rfl⟩⟩
  have hw0 : w.heap.size ≤ s0 := Nat.le_of_eq Sz0.out
  have hw1 : s0 ≤ w.heap.size := Nat.le_of_eq Sz0.out.symm
  by_cases hl : l0.length = 512
  case neg =>
    have hd : decS (l0.getD 8 0) (nameS l0) (wrap64 (le (seg l0 40 8))) (wrap64 (le (seg l0 48 8))) (rootB (seg l0 56 64)) c l0 = (0, ByteArray.empty, 0, 0, (List.replicate 15 0), 21) := by unfold decS; rw [if_neg (fun h_ => hl h_.1)]
    rw [hd] at h
    simp only [Prod.mk.injEq] at h
    obtain ⟨rfl, rfl, rfl, rfl, rfl, rfl⟩ := h
    clear hd
    have k0 : ((l0.length : Int) != 512) = true := bne_iff_ne.2 (by omega)
    clear hl
    go_enter Tryd.func53, Tryd.ntmps53
    go_wp2_with (first | ((with_reducible refine gate_dst (N := 8) rfl ?_); refine hx_alloc rfl 8 rfl 33 rfl Sz0 (.agg (snapC 0 ByteArray.empty 0 0 (List.replicate 15 0)).toArray) (snapC 0 ByteArray.empty 0 0 (List.replicate 15 0)).toArray Z33 (by simp [Value.cells]) ?_; intro w1 s1 Ls1 Ss1 b_ g_; have H8 := Aside0.mk g_; have HB1 := Aside0.mk (below_then HB0.out HB0.out.size b_); clear b_ g_ HB0) | ((with_reducible refine gate_dst (N := 10) rfl ?_); refine hx_alloc rfl 10 rfl 33 rfl Ss1 (.agg (snapC 0 ByteArray.empty 0 0 (List.replicate 15 0)).toArray) (snapC 0 ByteArray.empty 0 0 (List.replicate 15 0)).toArray Z33 (by simp [Value.cells]) ?_; intro w2 s2 Ls2 Ss2 b_ g_; have H10 := Aside0.mk g_; have HB2 := Aside0.mk (below_then HB1.out HB1.out.size b_); have H8_2 := Aside0.mk (blk_below H8.out b_); clear b_ g_ HB1 H8) | ((with_reducible refine gate_dst (N := 18) rfl ?_); refine hx_load rfl 33 (.tmp 10) rfl s1 19 rfl Tryd.underlying33 rfl (by kernel_rfl) H10.out snapZ_size ?_) | ((with_reducible refine gate_store (t := 33) (p := 8) (v := .tmp 18) rfl ?_); refine hx_store rfl rfl 33 (.tmp 8) (.tmp 18) rfl s0 19 rfl (snapC 0 ByteArray.empty 0 0 (List.replicate 15 0)).toArray rfl (by kernel_rfl) snapZ_size (snapC_one _ _ _ _ _) H8_2.out snapZ_size ?_; intro we t_ gg_; have HE := Aside0.mk gg_; have HEB := Aside0.mk (t_.below HB2.out (by omega)); clear t_ gg_ H8_2 HB2 ))
    exact bodyPost_ret (results_ct rfl _ _ s0 33 (snapC 0 ByteArray.empty 0 0 (List.replicate 15 0)).toArray (0, 0) _ rfl HE.out Tryd.underlying33 rfl (by rw [snapZ_size]; kernel_rfl)) rfl ⟨rfl, HEB.out⟩
  have k0 : ((l0.length : Int) != 512) = false := by rw [hl]; rfl
  obtain ⟨x, hx⟩ : ∃ z, z = l0.getD 8 0 := ⟨_, rfl⟩
  obtain ⟨s, hs⟩ : ∃ z, z = nameS l0 := ⟨_, rfl⟩
  obtain ⟨p, hp⟩ : ∃ z, z = wrap64 (le (seg l0 40 8)) := ⟨_, rfl⟩
  obtain ⟨q, hq⟩ : ∃ z, z = wrap64 (le (seg l0 48 8)) := ⟨_, rfl⟩
  obtain ⟨r, hr⟩ : ∃ z, z = rootB (seg l0 56 64) := ⟨_, rfl⟩
  have X1 := Aside0.mk hx
  have X2 := Aside0.mk hs
  have X3 := Aside0.mk hp
  have X4 := Aside0.mk hq
  have X5 := Aside0.mk hr
  have NR := Aside0.mk (show r.length = 15 by rw [hr]; exact rootOf_length _ _)
  have HCKs := Aside0.mk (show impl_CheckName.f k s = some c by rw [hs]; exact HCK.out)
  have HCZs := Aside0.mk (show c = 0 → s.size ≤ 26 by rw [hs]; exact HCZ.out)
  rw [← hx, ← hs, ← hp, ← hq, ← hr] at h
  have HL := Aside0.mk hl
  clear hx hs hp hq hr hl HCK HCZ
  by_cases hg : snapGood x c p q r = true
  case neg =>
    have hd : decS x s p q r c l0 = (0, ByteArray.empty, 0, 0, (List.replicate 15 0), 21) := by unfold decS; rw [if_neg (fun h_ => hg h_.2.1)]
    rw [hd] at h
    simp only [Prod.mk.injEq] at h
    obtain ⟨rfl, rfl, rfl, rfl, rfl, rfl⟩ := h
    clear hd
    have ER := Aside0.mk (show (if snapGood x c p q r = true then (snapBytes x s p q r, (0 : Int)) else ([], 7)) = ([], 7) from if_neg hg)
    clear hg
    go_enter Tryd.func53, Tryd.ntmps53
    go_wp2_with (first | ((with_reducible refine gate_dst (N := 8) rfl ?_); refine hx_alloc rfl 8 rfl 33 rfl Sz0 (.agg (snapC 0 ByteArray.empty 0 0 (List.replicate 15 0)).toArray) (snapC 0 ByteArray.empty 0 0 (List.replicate 15 0)).toArray Z33 (by simp [Value.cells]) ?_; intro w1 s1 Ls1 Ss1 b_ g_; have H8 := Aside0.mk g_; have HB1 := Aside0.mk (below_then HB0.out HB0.out.size b_); clear b_ g_ HB0) | ((with_reducible refine gate_dst (N := 10) rfl ?_); refine hx_alloc rfl 10 rfl 33 rfl Ss1 (.agg (snapC 0 ByteArray.empty 0 0 (List.replicate 15 0)).toArray) (snapC 0 ByteArray.empty 0 0 (List.replicate 15 0)).toArray Z33 (by simp [Value.cells]) ?_; intro w2 s2 Ls2 Ss2 b_ g_; have H10 := Aside0.mk g_; have HB2 := Aside0.mk (below_then HB1.out HB1.out.size b_); have H8_2 := Aside0.mk (blk_below H8.out b_); clear b_ g_ HB1 H8) | ((with_reducible refine gate_dst (N := 21) rfl ?_); refine goesV_ (some 21) rfl rfl Tryd.func54 (by kernel_rfl) rfl #[.slice A0 l0.length c0] rfl rfl (by (try simp only [List.map_toArray, List.map_cons, List.map_nil]); first | done | rfl) ?_; refine (impl_getSnap.calls A0 c0 l0 x s p q r _ (Kd.C_below HR0.out HB2.out) HC0.out HL.out HBY.out X1.out X2.out X3.out X4.out X5.out).mono ?_; rintro e_ w3 ⟨rfl, b_⟩; refine ⟨_, rfl, ?_⟩; have HB3 := Aside0.mk (below_then HB2.out HB2.out.size b_); have H8_3 := Aside0.mk (blk_below H8_2.out b_); have H10_3 := Aside0.mk (blk_below H10.out b_); have hz_ := blk_lt H10_3.out; have hy_ := blk_lt H8_3.out; obtain ⟨s3, Ss3⟩ : ∃ s, Aside0 (w3.heap.size = s) := ⟨_, ⟨rfl⟩⟩; rw [Ss3.out] at hz_ hy_; clear b_ H8_2 H10 HB2) | ((with_reducible refine gate_dst (N := 11) rfl ?_); refine hx_alloc rfl 11 rfl 33 rfl Ss3 (.agg (snapC 0 ByteArray.empty 0 0 (List.replicate 15 0)).toArray) (snapC 0 ByteArray.empty 0 0 (List.replicate 15 0)).toArray Z33 (by simp [Value.cells]) ?_; intro w4 s4 Ls4 Ss4 b_ g_; have HG4 := Aside0.mk g_; have HB4 := Aside0.mk (below_then HB3.out HB3.out.size b_); have H8_4 := Aside0.mk (blk_below H8_3.out b_); have H10_4 := Aside0.mk (blk_below H10_3.out b_); clear b_ g_ HB3 H8_3 H10_3) | ((with_reducible refine gate_store (t := 33) (p := 11) (v := .tmp 21) rfl ?_); refine hx_store rfl rfl 33 (.tmp 11) (.tmp 21) rfl s3 19 rfl (snapC x s p q r).toArray rfl (by kernel_rfl) (snapC_size NR.out) (snapC_one _ _ _ _ _) HG4.out snapZ_size ?_; intro w5 t_ gg_; have HG5 := Aside0.mk gg_; have H8_5 := Aside0.mk (t_.keep (show s0 ≠ s3 by omega) H8_4.out); have H10_5 := Aside0.mk (t_.keep (show s1 ≠ s3 by omega) H10_4.out); have HB5 := Aside0.mk (t_.below HB4.out (by omega)); clear t_ gg_ HG4 HB4 H8_4 H10_4) | ((with_reducible refine gate_dst (N := 24) rfl ?_); refine hx_load rfl 33 (.tmp 11) rfl s3 19 rfl Tryd.underlying33 rfl (by kernel_rfl) HG5.out (snapC_size NR.out) ?_) | ((with_reducible refine gate_dst (N := 25) rfl ?_); refine goesV_ (some 25) rfl rfl Tryd.func12 (by kernel_rfl) rfl #[.agg (snapC x s p q r).toArray] rfl rfl (by (try simp only [List.map_toArray, List.map_cons, List.map_nil]); first | done | rfl) ?_; refine (impl_EncodeSnap.calls x s p q r NR.out k c HCKs.out HCZs.out [] 7 _ (Kd.C_below HV.out HB5.out) ER.out).mono ?_; rintro e_ w6 ⟨v0_, rfl, R_, b_⟩; refine ⟨_, rfl, ?_⟩; have HG6 := Aside0.mk (blk_below HG5.out b_); have H8_6 := Aside0.mk (blk_below H8_5.out b_); have H10_6 := Aside0.mk (blk_below H10_5.out b_); have HB6 := Aside0.mk (below_then HB5.out HB5.out.size b_); clear b_ R_ HG5 H8_5 H10_5 HB5) | ((with_reducible refine gate_dst (N := 36) rfl ?_); refine hx_load rfl 33 (.tmp 10) rfl s1 19 rfl Tryd.underlying33 rfl (by kernel_rfl) H10_6.out snapZ_size ?_) | ((with_reducible refine gate_store (t := 33) (p := 8) (v := .tmp 36) rfl ?_); refine hx_store rfl rfl 33 (.tmp 8) (.tmp 36) rfl s0 19 rfl (snapC 0 ByteArray.empty 0 0 (List.replicate 15 0)).toArray rfl (by kernel_rfl) snapZ_size (snapC_one _ _ _ _ _) H8_6.out snapZ_size ?_; intro we t_ gg_; have HE := Aside0.mk gg_; have HEB := Aside0.mk (t_.below HB6.out (by omega)); clear t_ gg_ H8_6 HB6 ))
    exact bodyPost_ret (results_ct rfl _ _ s0 33 (snapC 0 ByteArray.empty 0 0 (List.replicate 15 0)).toArray (0, 0) _ rfl HE.out Tryd.underlying33 rfl (by rw [snapZ_size]; kernel_rfl)) rfl ⟨rfl, HEB.out⟩
  have hs0 : ((strOfNums (snapBytes x s p q r)).toList == (strOfNums l0).toList) = decide (snapBytes x s p q r = l0) := strOf_eq (snapBytes_byt x s p q r) HBY.out
  by_cases he : snapBytes x s p q r = l0
  case neg =>
    have hd : decS x s p q r c l0 = (0, ByteArray.empty, 0, 0, (List.replicate 15 0), 21) := by unfold decS; rw [if_neg (fun h_ => he h_.2.2)]
    rw [hd] at h
    simp only [Prod.mk.injEq] at h
    obtain ⟨rfl, rfl, rfl, rfl, rfl, rfl⟩ := h
    clear hd
    rw [decide_eq_false he] at hs0
    obtain ⟨rb, hrb⟩ : ∃ b, b = snapBytes x s p q r := ⟨_, rfl⟩
    have ER := Aside0.mk (show (if snapGood x c p q r = true then (snapBytes x s p q r, (0 : Int)) else ([], 7)) = (rb, 0) by rw [if_pos hg, hrb])
    rw [← hrb] at hs0
    clear hrb hg he
    have EQ := Aside0.mk (show bytes_Equal.f rb l0 = some false by unfold bytes_Equal.f; rw [hs0])
    clear hs0
    go_enter Tryd.func53, Tryd.ntmps53
    go_wp2_with (first | ((with_reducible refine gate_dst (N := 8) rfl ?_); refine hx_alloc rfl 8 rfl 33 rfl Sz0 (.agg (snapC 0 ByteArray.empty 0 0 (List.replicate 15 0)).toArray) (snapC 0 ByteArray.empty 0 0 (List.replicate 15 0)).toArray Z33 (by simp [Value.cells]) ?_; intro w1 s1 Ls1 Ss1 b_ g_; have H8 := Aside0.mk g_; have HB1 := Aside0.mk (below_then HB0.out HB0.out.size b_); clear b_ g_ HB0) | ((with_reducible refine gate_dst (N := 10) rfl ?_); refine hx_alloc rfl 10 rfl 33 rfl Ss1 (.agg (snapC 0 ByteArray.empty 0 0 (List.replicate 15 0)).toArray) (snapC 0 ByteArray.empty 0 0 (List.replicate 15 0)).toArray Z33 (by simp [Value.cells]) ?_; intro w2 s2 Ls2 Ss2 b_ g_; have H10 := Aside0.mk g_; have HB2 := Aside0.mk (below_then HB1.out HB1.out.size b_); have H8_2 := Aside0.mk (blk_below H8.out b_); clear b_ g_ HB1 H8) | ((with_reducible refine gate_dst (N := 21) rfl ?_); refine goesV_ (some 21) rfl rfl Tryd.func54 (by kernel_rfl) rfl #[.slice A0 l0.length c0] rfl rfl (by (try simp only [List.map_toArray, List.map_cons, List.map_nil]); first | done | rfl) ?_; refine (impl_getSnap.calls A0 c0 l0 x s p q r _ (Kd.C_below HR0.out HB2.out) HC0.out HL.out HBY.out X1.out X2.out X3.out X4.out X5.out).mono ?_; rintro e_ w3 ⟨rfl, b_⟩; refine ⟨_, rfl, ?_⟩; have HB3 := Aside0.mk (below_then HB2.out HB2.out.size b_); have H8_3 := Aside0.mk (blk_below H8_2.out b_); have H10_3 := Aside0.mk (blk_below H10.out b_); have hz_ := blk_lt H10_3.out; have hy_ := blk_lt H8_3.out; obtain ⟨s3, Ss3⟩ : ∃ s, Aside0 (w3.heap.size = s) := ⟨_, ⟨rfl⟩⟩; rw [Ss3.out] at hz_ hy_; clear b_ H8_2 H10 HB2) | ((with_reducible refine gate_dst (N := 11) rfl ?_); refine hx_alloc rfl 11 rfl 33 rfl Ss3 (.agg (snapC 0 ByteArray.empty 0 0 (List.replicate 15 0)).toArray) (snapC 0 ByteArray.empty 0 0 (List.replicate 15 0)).toArray Z33 (by simp [Value.cells]) ?_; intro w4 s4 Ls4 Ss4 b_ g_; have HG4 := Aside0.mk g_; have HB4 := Aside0.mk (below_then HB3.out HB3.out.size b_); have H8_4 := Aside0.mk (blk_below H8_3.out b_); have H10_4 := Aside0.mk (blk_below H10_3.out b_); clear b_ g_ HB3 H8_3 H10_3) | ((with_reducible refine gate_store (t := 33) (p := 11) (v := .tmp 21) rfl ?_); refine hx_store rfl rfl 33 (.tmp 11) (.tmp 21) rfl s3 19 rfl (snapC x s p q r).toArray rfl (by kernel_rfl) (snapC_size NR.out) (snapC_one _ _ _ _ _) HG4.out snapZ_size ?_; intro w5 t_ gg_; have HG5 := Aside0.mk gg_; have H8_5 := Aside0.mk (t_.keep (show s0 ≠ s3 by omega) H8_4.out); have H10_5 := Aside0.mk (t_.keep (show s1 ≠ s3 by omega) H10_4.out); have HB5 := Aside0.mk (t_.below HB4.out (by omega)); clear t_ gg_ HG4 HB4 H8_4 H10_4) | ((with_reducible refine gate_dst (N := 24) rfl ?_); refine hx_load rfl 33 (.tmp 11) rfl s3 19 rfl Tryd.underlying33 rfl (by kernel_rfl) HG5.out (snapC_size NR.out) ?_) | ((with_reducible refine gate_dst (N := 25) rfl ?_); refine goesV_ (some 25) rfl rfl Tryd.func12 (by kernel_rfl) rfl #[.agg (snapC x s p q r).toArray] rfl rfl (by (try simp only [List.map_toArray, List.map_cons, List.map_nil]); first | done | rfl) ?_; refine (impl_EncodeSnap.calls x s p q r NR.out k c HCKs.out HCZs.out rb 0 _ (Kd.C_below HV.out HB5.out) ER.out).mono ?_; rintro e_ w6 ⟨v0_, rfl, R_, b_⟩; obtain ⟨Ab, cb, rfl⟩ := Kd.R_slice R_; refine ⟨_, rfl, ?_⟩; have HG6 := Aside0.mk (blk_below HG5.out b_); have H8_6 := Aside0.mk (blk_below H8_5.out b_); have H10_6 := Aside0.mk (blk_below H10_5.out b_); have HB6 := Aside0.mk (below_then HB5.out HB5.out.size b_); have RR := Aside0.mk (Kd.R_reads' R_); clear b_ R_ HG5 H8_5 H10_5 HB5) | (go_at_call 83; (with_reducible refine (bytes_Equal.calls Ab cb rb A0 c0 l0 false _ RR.out.2.2 RR.out.2.1 (Kd.C_below HR0.out HB6.out) HC0.out EQ.out).mono ?_); rintro e_ w7 ⟨rfl, d_⟩; have b_ := kept_drawn d_; have HG7 := Aside0.mk (blk_below HG6.out b_); have H8_7 := Aside0.mk (blk_below H8_6.out b_); have H10_7 := Aside0.mk (blk_below H10_6.out b_); have HB7 := Aside0.mk (below_then HB6.out HB6.out.size b_); clear b_ d_ HG6 H8_6 H10_6 HB6) | ((with_reducible refine gate_dst (N := 36) rfl ?_); refine hx_load rfl 33 (.tmp 10) rfl s1 19 rfl Tryd.underlying33 rfl (by kernel_rfl) H10_7.out snapZ_size ?_) | ((with_reducible refine gate_store (t := 33) (p := 8) (v := .tmp 36) rfl ?_); refine hx_store rfl rfl 33 (.tmp 8) (.tmp 36) rfl s0 19 rfl (snapC 0 ByteArray.empty 0 0 (List.replicate 15 0)).toArray rfl (by kernel_rfl) snapZ_size (snapC_one _ _ _ _ _) H8_7.out snapZ_size ?_; intro we t_ gg_; have HE := Aside0.mk gg_; have HEB := Aside0.mk (t_.below HB7.out (by omega)); clear t_ gg_ H8_7 HB7 ))
    exact bodyPost_ret (results_ct rfl _ _ s0 33 (snapC 0 ByteArray.empty 0 0 (List.replicate 15 0)).toArray (0, 0) _ rfl HE.out Tryd.underlying33 rfl (by rw [snapZ_size]; kernel_rfl)) rfl ⟨rfl, HEB.out⟩
  have hd : decS x s p q r c l0 = (x, s, p, q, r, 0) := by unfold decS; rw [if_pos ⟨HL.out, hg, he⟩]
  rw [hd] at h
  simp only [Prod.mk.injEq] at h
  obtain ⟨rfl, rfl, rfl, rfl, rfl, rfl⟩ := h
  rw [decide_eq_true he] at hs0
  clear hd
  obtain ⟨rb, hrb⟩ : ∃ b, b = snapBytes x s p q r := ⟨_, rfl⟩
  have ER := Aside0.mk (show (if snapGood x c p q r = true then (snapBytes x s p q r, (0 : Int)) else ([], 7)) = (rb, 0) by rw [if_pos hg, hrb])
  rw [← hrb] at hs0
  clear hrb hg he
  have EQ := Aside0.mk (show bytes_Equal.f rb l0 = some true by unfold bytes_Equal.f; rw [hs0])
  clear hs0
  go_enter Tryd.func53, Tryd.ntmps53
  go_wp2_with (first | ((with_reducible refine gate_dst (N := 8) rfl ?_); refine hx_alloc rfl 8 rfl 33 rfl Sz0 (.agg (snapC 0 ByteArray.empty 0 0 (List.replicate 15 0)).toArray) (snapC 0 ByteArray.empty 0 0 (List.replicate 15 0)).toArray Z33 (by simp [Value.cells]) ?_; intro w1 s1 Ls1 Ss1 b_ g_; have H8 := Aside0.mk g_; have HB1 := Aside0.mk (below_then HB0.out HB0.out.size b_); clear b_ g_ HB0) | ((with_reducible refine gate_dst (N := 10) rfl ?_); refine hx_alloc rfl 10 rfl 33 rfl Ss1 (.agg (snapC 0 ByteArray.empty 0 0 (List.replicate 15 0)).toArray) (snapC 0 ByteArray.empty 0 0 (List.replicate 15 0)).toArray Z33 (by simp [Value.cells]) ?_; intro w2 s2 Ls2 Ss2 b_ g_; have H10 := Aside0.mk g_; have HB2 := Aside0.mk (below_then HB1.out HB1.out.size b_); have H8_2 := Aside0.mk (blk_below H8.out b_); clear b_ g_ HB1 H8) | ((with_reducible refine gate_dst (N := 21) rfl ?_); refine goesV_ (some 21) rfl rfl Tryd.func54 (by kernel_rfl) rfl #[.slice A0 l0.length c0] rfl rfl (by (try simp only [List.map_toArray, List.map_cons, List.map_nil]); first | done | rfl) ?_; refine (impl_getSnap.calls A0 c0 l0 x s p q r _ (Kd.C_below HR0.out HB2.out) HC0.out HL.out HBY.out X1.out X2.out X3.out X4.out X5.out).mono ?_; rintro e_ w3 ⟨rfl, b_⟩; refine ⟨_, rfl, ?_⟩; have HB3 := Aside0.mk (below_then HB2.out HB2.out.size b_); have H8_3 := Aside0.mk (blk_below H8_2.out b_); have H10_3 := Aside0.mk (blk_below H10.out b_); have hz_ := blk_lt H10_3.out; have hy_ := blk_lt H8_3.out; obtain ⟨s3, Ss3⟩ : ∃ s, Aside0 (w3.heap.size = s) := ⟨_, ⟨rfl⟩⟩; rw [Ss3.out] at hz_ hy_; clear b_ H8_2 H10 HB2) | ((with_reducible refine gate_dst (N := 11) rfl ?_); refine hx_alloc rfl 11 rfl 33 rfl Ss3 (.agg (snapC 0 ByteArray.empty 0 0 (List.replicate 15 0)).toArray) (snapC 0 ByteArray.empty 0 0 (List.replicate 15 0)).toArray Z33 (by simp [Value.cells]) ?_; intro w4 s4 Ls4 Ss4 b_ g_; have HG4 := Aside0.mk g_; have HB4 := Aside0.mk (below_then HB3.out HB3.out.size b_); have H8_4 := Aside0.mk (blk_below H8_3.out b_); have H10_4 := Aside0.mk (blk_below H10_3.out b_); clear b_ g_ HB3 H8_3 H10_3) | ((with_reducible refine gate_store (t := 33) (p := 11) (v := .tmp 21) rfl ?_); refine hx_store rfl rfl 33 (.tmp 11) (.tmp 21) rfl s3 19 rfl (snapC x s p q r).toArray rfl (by kernel_rfl) (snapC_size NR.out) (snapC_one _ _ _ _ _) HG4.out snapZ_size ?_; intro w5 t_ gg_; have HG5 := Aside0.mk gg_; have H8_5 := Aside0.mk (t_.keep (show s0 ≠ s3 by omega) H8_4.out); have H10_5 := Aside0.mk (t_.keep (show s1 ≠ s3 by omega) H10_4.out); have HB5 := Aside0.mk (t_.below HB4.out (by omega)); clear t_ gg_ HG4 HB4 H8_4 H10_4) | ((with_reducible refine gate_dst (N := 24) rfl ?_); refine hx_load rfl 33 (.tmp 11) rfl s3 19 rfl Tryd.underlying33 rfl (by kernel_rfl) HG5.out (snapC_size NR.out) ?_) | ((with_reducible refine gate_dst (N := 25) rfl ?_); refine goesV_ (some 25) rfl rfl Tryd.func12 (by kernel_rfl) rfl #[.agg (snapC x s p q r).toArray] rfl rfl (by (try simp only [List.map_toArray, List.map_cons, List.map_nil]); first | done | rfl) ?_; refine (impl_EncodeSnap.calls x s p q r NR.out k c HCKs.out HCZs.out rb 0 _ (Kd.C_below HV.out HB5.out) ER.out).mono ?_; rintro e_ w6 ⟨v0_, rfl, R_, b_⟩; obtain ⟨Ab, cb, rfl⟩ := Kd.R_slice R_; refine ⟨_, rfl, ?_⟩; have HG6 := Aside0.mk (blk_below HG5.out b_); have H8_6 := Aside0.mk (blk_below H8_5.out b_); have H10_6 := Aside0.mk (blk_below H10_5.out b_); have HB6 := Aside0.mk (below_then HB5.out HB5.out.size b_); have RR := Aside0.mk (Kd.R_reads' R_); clear b_ R_ HG5 H8_5 H10_5 HB5) | (go_at_call 83; (with_reducible refine (bytes_Equal.calls Ab cb rb A0 c0 l0 true _ RR.out.2.2 RR.out.2.1 (Kd.C_below HR0.out HB6.out) HC0.out EQ.out).mono ?_); rintro e_ w7 ⟨rfl, d_⟩; have b_ := kept_drawn d_; have HG7 := Aside0.mk (blk_below HG6.out b_); have H8_7 := Aside0.mk (blk_below H8_6.out b_); have H10_7 := Aside0.mk (blk_below H10_6.out b_); have HB7 := Aside0.mk (below_then HB6.out HB6.out.size b_); clear b_ d_ HG6 H8_6 H10_6 HB6) | ((with_reducible refine gate_dst (N := 37) rfl ?_); refine hx_load rfl 33 (.tmp 11) rfl s3 19 rfl Tryd.underlying33 rfl (by kernel_rfl) HG7.out (snapC_size NR.out) ?_) | ((with_reducible refine gate_store (t := 33) (p := 8) (v := .tmp 37) rfl ?_); refine hx_store rfl rfl 33 (.tmp 8) (.tmp 37) rfl s0 19 rfl (snapC x s p q r).toArray rfl (by kernel_rfl) (snapC_size NR.out) (snapC_one _ _ _ _ _) H8_7.out snapZ_size ?_; intro we t_ gg_; have HE := Aside0.mk gg_; have HEB := Aside0.mk (t_.below HB7.out (by omega)); clear t_ gg_ H8_7 HB7 ))
  exact bodyPost_ret (results_ct rfl _ _ s0 33 (snapC x s p q r).toArray (0, 0) _ rfl HE.out Tryd.underlying33 rfl (by rw [snapC_size NR.out]; kernel_rfl)) rfl ⟨rfl, HEB.out⟩

open Go.Proofs.YtkghgjehjchajaaDoorW Go.Proofs.YtkghgjehjchajaaDoorW.PrintHand Go.Proofs.YtkghgjehjchajaaDoorW.PrintHx
/-! ### impl_DecodeSnap: function 18 -/
open Go.Proofs.YtkghgjehjchajaaDoorW.PrintLe Go.Proofs.YtkghgjehjchajaaDoorW.PrintGrow Go.Proofs.YtkghgjehjchajaaDoorW.PrintDec Go.Proofs.YtkghgjehjchajaaDoorW.PrintIno Go.Proofs.YtkghgjehjchajaaDoorW.PrintTab2 Go.Proofs.YtkghgjehjchajaaDoorW.PrintTab3 Go.Proofs.YtkghgjehjchajaaDoorW.PrintFsi Go.Proofs.YtkghgjehjchajaaDoorW.PrintFsb Go.Proofs.YtkghgjehjchajaaDoorW.PrintFsd Go.Proofs.YtkghgjehjchajaaDoorW.PrintCrc Go.Proofs.YtkghgjehjchajaaDoorW.PrintSnp Go.Proofs.YtkghgjehjchajaaDoorW.PrintSnd
set_option maxHeartbeats 8000000 in
set_option maxRecDepth 100000 in
theorem impl_DecodeSnap.calls (A0 : Option Addr) (c0 : Nat) (l0 : List Int) (k : Nat) (c : Int) (hck : impl_CheckName.f k (nameS l0) = some c) (hcz : c = 0 → (nameS l0).size ≤ 26) (x1 : Int) (s1 : ByteArray) (p1 q1 : Int) (r1 : List Int) (k1 : Int) (w : World) (hv : Kd.C (Kd.int .u8) w (some ⟨0, 0, none⟩) 8 magicS) (hr0 : Kd.C (Kd.int .u8) w A0 l0.length l0) (hc0 : l0.length ≤ c0) (hby : ∀ x ∈ l0, 0 ≤ x ∧ x ≤ 255) (h : snapB c l0 = (x1, s1, p1, q1, r1, k1)) :
    Calls Tryd.prog 18 #[.slice A0 l0.length c0] w fun e w' => e = .returned (.tuple #[.agg (snapC x1 s1 p1 q1 r1).toArray, .int .i64 k1]) ∧ Below w.heap.size w w' := by
  have NR := Aside0.mk (show r1.length = 15 from decS_root (rootOf_length _ _) h)
  have HD := Aside0.mk h
  have HV := Aside0.mk hv
  have HBY := Aside0.mk hby
  have HR0 := Aside0.mk hr0
  have HC0 := Aside0.mk hc0
  have HCK := Aside0.mk hck
  have HCZ := Aside0.mk hcz
  clear hv hby hr0 hc0 hck hcz h
  have Z33 : ∀ w, (zeroValue 33).run Tryd.prog w = .ok (.agg (snapC 0 ByteArray.empty 0 0 (List.replicate 15 0)).toArray) w := fun _ => by kernel_rfl
  have HB0 : Aside0 (Below w.heap.size w w) := ⟨Below.refl _ _⟩
  obtain ⟨s0, Sz0⟩ : ∃ s0, Aside0 (w.heap.size = s0) := ⟨_, ⟨rfl⟩⟩
  have hw0 : w.heap.size ≤ s0 := Nat.le_of_eq Sz0.out
  have hw1 : s0 ≤ w.heap.size := Nat.le_of_eq Sz0.out.symm
  go_enter Tryd.func18, Tryd.ntmps18
  go_wp2_with (first | ((with_reducible refine gate_dst (N := 2) rfl ?_); refine hx_alloc rfl 2 rfl 33 rfl Sz0 (.agg (snapC 0 ByteArray.empty 0 0 (List.replicate 15 0)).toArray) (snapC 0 ByteArray.empty 0 0 (List.replicate 15 0)).toArray Z33 (by simp [Value.cells]) ?_; intro w1 z1 Lz1 Sz1 b_ g_; have H2 := Aside0.mk g_; have HB1 := Aside0.mk (below_then HB0.out HB0.out.size b_); clear b_ g_ HB0) | ((with_reducible refine gate_dst (N := 5) rfl ?_); refine goesL_ (some 5) rfl rfl Tryd.func53 (by kernel_rfl) rfl #[.slice A0 l0.length c0, .int .i64 512, .func (.func 54) #[] #[], .func (.func 12) #[] #[]] rfl (by (try simp only [List.map_toArray, List.map_cons, List.map_nil]); first | done | rfl) ?_; refine (impl_Snap.calls A0 c0 l0 k c HCK.out HCZ.out x1 s1 p1 q1 r1 k1 _ (Kd.C_below HV.out HB1.out) (Kd.C_below HR0.out HB1.out) HC0.out HBY.out HD.out).mono ?_; rintro e_ w2 ⟨rfl, b_⟩; refine ⟨_, rfl, ?_⟩; have HB2 := Aside0.mk (below_then HB1.out HB1.out.size b_); have H2_2 := Aside0.mk (blk_below H2.out b_); clear b_ H2 HB1) | ((with_reducible refine gate_store (t := 33) (p := 2) (v := .tmp 6) rfl ?_); refine hx_store rfl rfl 33 (.tmp 2) (.tmp 6) rfl s0 19 rfl (snapC x1 s1 p1 q1 r1).toArray rfl (by kernel_rfl) (snapC_size NR.out) (snapC_one _ _ _ _ _) H2_2.out snapZ_size ?_; intro we t_ gg_; have HE := Aside0.mk gg_; have HEB := Aside0.mk (t_.below HB2.out (by omega)); clear t_ gg_ H2_2 HB2 ))
  exact bodyPost_ret (results_ct rfl _ _ s0 33 (snapC x1 s1 p1 q1 r1).toArray (0, 0) _ rfl HE.out Tryd.underlying33 rfl (by rw [snapC_size NR.out]; kernel_rfl)) rfl ⟨rfl, HEB.out⟩

open Go.Proofs.YtkghgjehjchajaaDoorW Go.Proofs.YtkghgjehjchajaaDoorW.PrintHand Go.Proofs.YtkghgjehjchajaaDoorW.PrintHx
/-! ### laws_eqIntA12: function 86 -/
def laws_eqIntA12.f (a0 a1 : List Int) : Option Bool := if a0 = a1 then some true else none
set_option maxHeartbeats 4000000 in
theorem laws_eqIntA12.calls (a0 : List Int) (n0 : a0.length = 12) (a1 : List Int) (n1 : a1.length = 12) (r : Bool) (w : World) (h : laws_eqIntA12.f a0 a1 = some r) :
    Calls Tryd.prog 86 #[.agg (nums .i64 a0).toArray, .agg (nums .i64 a1).toArray] w fun e w' => e = .returned (.bool r) ∧ Below w.heap.size w w' := by
  unfold laws_eqIntA12.f at h
  by_cases he : a0 = a1
  case neg => rw [if_neg he] at h; cases h
  rw [if_pos he] at h
  obtain rfl := Option.some.inj h
  subst he
  have N_ := Aside0.mk n0
  clear n0 n1 h
  have HB0 : Aside0 (Below w.heap.size w w) := ⟨Below.refl _ _⟩
  obtain ⟨s0, Sz0⟩ : ∃ s0, Aside0 (w.heap.size = s0) := ⟨_, ⟨rfl⟩⟩
  go_enter Tryd.func86, Tryd.ntmps86
  go_wp2_with (first | ((with_reducible refine gate_dst (N := 2) rfl ?_); refine hx_box rfl 2 rfl 22 (.tmp 0) rfl Sz0 (.agg (nums .i64 a0).toArray) (nums .i64 a0).toArray rfl rfl ?_; intro w1 s1 L1 Sz1 b1 g_; have H0 := Aside0.mk g_; have HB1 := Aside0.mk (below_then HB0.out HB0.out.size b1); clear g_ HB0 b1) | ((with_reducible refine gate_dst (N := 3) rfl ?_); refine hx_box rfl 3 rfl 22 (.tmp 1) rfl Sz1 (.agg (nums .i64 a0).toArray) (nums .i64 a0).toArray rfl rfl ?_; intro w2 s2 L2 Sz2 b2 g_; have H1 := Aside0.mk g_; have H0 := Aside0.mk (blk_below H0.out b2); have HB2 := Aside0.mk (below_then HB1.out HB1.out.size b2); clear g_ HB1 b2))
  (try simp only [Act.put, List.setIfInBounds_toArray, List.set_cons_succ, List.set_cons_zero])
  go_loopw [5] (fun i wr => ∃ k : Nat, k ≤ 12 ∧ i = .int .i64 (k : Int) ∧ Aside0 (Below w.heap.size w wr) ∧ Aside0 (wr.heap[s0]? = some (.cells (nums .i64 a0).toArray 22 (0, 0))) ∧ Aside0 (wr.heap[s1]? = some (.cells (nums .i64 a0).toArray 22 (0, 0)))) (fun i _ => 12 - (intOf i).toNat)
  case atStart => exact ⟨0, by omega, rfl, HB2, H0, H1⟩
  case round =>
    obtain ⟨k, hk, rfl, hB, h0, h1⟩ := hrel
    by_cases hlt : k < 12
    · have c0 := row_cell h0.out k (by rw [N_.out]; exact hlt)
      have c1 := row_cell h1.out k (by rw [N_.out]; exact hlt)
      have hn : (a0.getD k 0 != a0.getD k 0) = false := by simp
      go_wp2
      go_quiet (fail)
      go_wp2
      go_roundw
      case rel => exact ⟨k + 1, by omega, by go_num, ⟨pw_below_drewN hB.out _⟩, ⟨blk_drewN h0.out _⟩, ⟨blk_drewN h1.out _⟩⟩
      case measure => simp [intOf]; omega
    · obtain rfl : k = 12 := by omega
      go_wp2
      go_ret
      exact ⟨rfl, hB.out⟩

open Go.Proofs.YtkghgjehjchajaaDoorW Go.Proofs.YtkghgjehjchajaaDoorW.PrintHand Go.Proofs.YtkghgjehjchajaaDoorW.PrintHx
/-! ### laws_eqRoot: function 55 -/
def laws_eqRoot.f (a0 a1 : List Int) : Option Bool := if a0 = a1 then some true else none
set_option maxHeartbeats 8000000 in
set_option maxRecDepth 100000 in
theorem laws_eqRoot.calls (a0 : List Int) (n0 : a0.length = 15) (a1 : List Int) (n1 : a1.length = 15) (r : Bool) (w : World) (h : laws_eqRoot.f a0 a1 = some r) :
    Calls Tryd.prog 55 #[.agg (nums .i64 a0).toArray, .agg (nums .i64 a1).toArray] w fun e w' => e = .returned (.bool r) ∧ Below w.heap.size w w' := by
  unfold laws_eqRoot.f at h
  by_cases he : a0 = a1
  case neg => rw [if_neg he] at h; cases h
  rw [if_pos he] at h
  obtain rfl := Option.some.inj h
  subst he
  have N_ := Aside0.mk n0
  clear n0 n1 h
  have HB0 : Aside0 (Below w.heap.size w w) := ⟨Below.refl _ _⟩
  obtain ⟨s0, Sz0⟩ : ∃ s0, Aside0 (w.heap.size = s0) := ⟨_, ⟨rfl⟩⟩
  have hw0 : w.heap.size ≤ s0 := Nat.le_of_eq Sz0.out
  have hw1 : s0 ≤ w.heap.size := Nat.le_of_eq Sz0.out.symm
  go_enter Tryd.func55, Tryd.ntmps55
  go_wp2_with (first | ((with_reducible refine gate_dst (N := 2) rfl ?_); refine hx_box rfl 2 rfl 31 (.tmp 0) rfl Sz0 (.agg (nums .i64 a0).toArray) (nums .i64 a0).toArray rfl rfl ?_; intro w1 s1 L1 Sz1 b1 g_; have H2_1 := Aside0.mk g_; clear g_; have K0 := kept_below b1; have HB1 := Aside0.mk (below_then HB0.out HB0.out.size b1); clear b1; clear K0 HB0) | ((with_reducible refine gate_dst (N := 3) rfl ?_); refine hx_box rfl 3 rfl 31 (.tmp 1) rfl Sz1 (.agg (nums .i64 a0).toArray) (nums .i64 a0).toArray rfl rfl ?_; intro w2 s2 L2 Sz2 b2 g_; have H3_2 := Aside0.mk g_; clear g_; have K1 := kept_below b2; have HB2 := Aside0.mk (below_then HB1.out HB1.out.size b2); have H2_2 := Aside0.mk (blk_kept H2_1.out K1 (fun h_ => h_)); clear b2; clear K1 HB1 H2_1) | ((with_reducible refine gate_dst (N := 6) rfl ?_); refine hx_loadf rfl 3 (.tmp 5) rfl s0 0 rfl Tryd.underlying3 rfl H2_2.out (lt_len (n := 15) N_.out (by decide)) ?_) | ((with_reducible refine gate_dst (N := 8) rfl ?_); refine hx_loadf rfl 3 (.tmp 7) rfl s1 0 rfl Tryd.underlying3 rfl H3_2.out (lt_len (n := 15) N_.out (by decide)) ?_) | ((with_reducible refine gate_dst (N := 11) rfl ?_); refine hx_loadp rfl 22 (.tmp 10) rfl s0 1 12 rfl Tryd.underlying22 rfl (by kernel_rfl) H2_2.out (le_len (n := 15) N_.out (by decide)) ?_) | ((with_reducible refine gate_dst (N := 13) rfl ?_); refine hx_loadp rfl 22 (.tmp 12) rfl s1 1 12 rfl Tryd.underlying22 rfl (by kernel_rfl) H3_2.out (le_len (n := 15) N_.out (by decide)) ?_) | ((with_reducible refine gate_dst (N := 14) rfl ?_); refine goesL_ (some 14) rfl rfl Tryd.func86 (by kernel_rfl) rfl #[.agg (nums .i64 (seg a0 1 12)).toArray, .agg (nums .i64 (seg a0 1 12)).toArray] rfl (by (try simp only [List.map_toArray, List.map_cons, List.map_nil]); first | done | rfl) ?_; refine (laws_eqIntA12.calls _ (part_len (n := 15) N_.out (by decide)) _ (part_len (n := 15) N_.out (by decide)) _ _ (if_pos rfl)).mono ?_; rintro e_ w3 ⟨rfl, b3⟩; refine ⟨_, rfl, ?_⟩; obtain ⟨s3, L3, Sz3⟩ := size_letter Sz2 (kept_below b3); have K2 := kept_below b3; have HB3 := Aside0.mk (below_then HB2.out HB2.out.size b3); have H2_3 := Aside0.mk (blk_kept H2_2.out K2 (fun h_ => h_)); have H3_3 := Aside0.mk (blk_kept H3_2.out K2 (fun h_ => h_)); clear b3; clear K2 HB2 H2_2 H3_2) | ((with_reducible refine gate_dst (N := 17) rfl ?_); refine hx_loadf rfl 3 (.tmp 16) rfl s0 13 rfl Tryd.underlying3 rfl H2_3.out (lt_len (n := 15) N_.out (by decide)) ?_) | ((with_reducible refine gate_dst (N := 19) rfl ?_); refine hx_loadf rfl 3 (.tmp 18) rfl s1 13 rfl Tryd.underlying3 rfl H3_3.out (lt_len (n := 15) N_.out (by decide)) ?_) | ((with_reducible refine gate_dst (N := 22) rfl ?_); refine hx_loadf rfl 3 (.tmp 21) rfl s0 14 rfl Tryd.underlying3 rfl H2_3.out (lt_len (n := 15) N_.out (by decide)) ?_) | ((with_reducible refine gate_dst (N := 24) rfl ?_); refine hx_loadf rfl 3 (.tmp 23) rfl s1 14 rfl Tryd.underlying3 rfl H3_3.out (lt_len (n := 15) N_.out (by decide)) ?_))
  go_ret
  exact ⟨rfl, HB3.out⟩

open Go.Proofs.YtkghgjehjchajaaDoorW Go.Proofs.YtkghgjehjchajaaDoorW.PrintHand Go.Proofs.YtkghgjehjchajaaDoorW.PrintHx
/-! ### laws_eqSnap: function 19 -/
open Go.Proofs.YtkghgjehjchajaaDoorW.PrintLe Go.Proofs.YtkghgjehjchajaaDoorW.PrintGrow Go.Proofs.YtkghgjehjchajaaDoorW.PrintDec Go.Proofs.YtkghgjehjchajaaDoorW.PrintIno Go.Proofs.YtkghgjehjchajaaDoorW.PrintTab2 Go.Proofs.YtkghgjehjchajaaDoorW.PrintTab3 Go.Proofs.YtkghgjehjchajaaDoorW.PrintFsi Go.Proofs.YtkghgjehjchajaaDoorW.PrintFsb Go.Proofs.YtkghgjehjchajaaDoorW.PrintFsd Go.Proofs.YtkghgjehjchajaaDoorW.PrintCrc Go.Proofs.YtkghgjehjchajaaDoorW.PrintSnp Go.Proofs.YtkghgjehjchajaaDoorW.PrintSnd
set_option maxHeartbeats 8000000 in
set_option maxRecDepth 100000 in
theorem laws_eqSnap.calls (x : Int) (s : ByteArray) (p q : Int) (r : List Int) (nr : r.length = 15) (w : World) :
    Calls Tryd.prog 19 #[.agg (snapC x s p q r).toArray, .agg (snapC x s p q r).toArray] w fun e w' => e = .returned (.bool true) ∧ Below w.heap.size w w' := by
  have NR := Aside0.mk nr
  clear nr
  have HB0 : Aside0 (Below w.heap.size w w) := ⟨Below.refl _ _⟩
  obtain ⟨s0, Sz0⟩ : ∃ s0, Aside0 (w.heap.size = s0) := ⟨_, ⟨rfl⟩⟩
  have hw0 : w.heap.size ≤ s0 := Nat.le_of_eq Sz0.out
  have hw1 : s0 ≤ w.heap.size := Nat.le_of_eq Sz0.out.symm
  go_enter Tryd.func19, Tryd.ntmps19
  go_wp2_with (first | ((with_reducible refine gate_dst (N := 2) rfl ?_); refine hx_box rfl 2 rfl 33 (.tmp 0) rfl Sz0 (.agg (snapC x s p q r).toArray) (snapC x s p q r).toArray rfl (by simp [Value.cells]) ?_; intro w1 z1 Lz1 Sz1_ b1_ g_; have HA := Aside0.mk g_; have HB1 := Aside0.mk (below_then HB0.out HB0.out.size b1_); clear g_ HB0 b1_) | ((with_reducible refine gate_dst (N := 3) rfl ?_); refine hx_box rfl 3 rfl 33 (.tmp 1) rfl Sz1_ (.agg (snapC x s p q r).toArray) (snapC x s p q r).toArray rfl (by simp [Value.cells]) ?_; intro w2 z2 Lz2 Sz2_ b1_ g_; have HC := Aside0.mk g_; have HB2 := Aside0.mk (below_then HB1.out HB1.out.size b1_); have HA2 := Aside0.mk (blk_below HA.out b1_); clear HA; clear g_ HB1 b1_) | ((with_reducible refine gate_dst (N := 6) rfl ?_); refine wpList_ld1 rfl 3 (.tmp 5) rfl s0 0 rfl (.int .i64 x) Tryd.underlying3 rfl HA2.out rfl ?_) | ((with_reducible refine gate_dst (N := 8) rfl ?_); refine wpList_ld1 rfl 3 (.tmp 7) rfl z1 0 rfl (.int .i64 x) Tryd.underlying3 rfl HC.out rfl ?_) | ((with_reducible refine gate_dst (N := 11) rfl ?_); refine wpList_ld1 rfl 9 (.tmp 10) rfl s0 1 rfl (.string s) Tryd.underlying9 rfl HA2.out rfl ?_) | ((with_reducible refine gate_dst (N := 13) rfl ?_); refine wpList_ld1 rfl 9 (.tmp 12) rfl z1 1 rfl (.string s) Tryd.underlying9 rfl HC.out rfl ?_) | ((with_reducible refine gate_dst (N := 16) rfl ?_); refine wpList_ld1 rfl 3 (.tmp 15) rfl s0 2 rfl (.int .i64 p) Tryd.underlying3 rfl HA2.out rfl ?_) | ((with_reducible refine gate_dst (N := 18) rfl ?_); refine wpList_ld1 rfl 3 (.tmp 17) rfl z1 2 rfl (.int .i64 p) Tryd.underlying3 rfl HC.out rfl ?_) | ((with_reducible refine gate_dst (N := 21) rfl ?_); refine wpList_ld1 rfl 3 (.tmp 20) rfl s0 3 rfl (.int .i64 q) Tryd.underlying3 rfl HA2.out rfl ?_) | ((with_reducible refine gate_dst (N := 23) rfl ?_); refine wpList_ld1 rfl 3 (.tmp 22) rfl z1 3 rfl (.int .i64 q) Tryd.underlying3 rfl HC.out rfl ?_) | ((with_reducible refine gate_dst (N := 26) rfl ?_); refine wpList_ld rfl 31 (.tmp 25) rfl s0 4 15 rfl (nums .i64 r).toArray Tryd.underlying31 rfl (by kernel_rfl) HA2.out (by rw [snapC_size NR.out]; decide) (snapC_root NR.out) ?_) | ((with_reducible refine gate_dst (N := 28) rfl ?_); refine wpList_ld rfl 31 (.tmp 27) rfl z1 4 15 rfl (nums .i64 r).toArray Tryd.underlying31 rfl (by kernel_rfl) HC.out (by rw [snapC_size NR.out]; decide) (snapC_root NR.out) ?_) | ((with_reducible refine gate_dst (N := 29) rfl ?_); refine goesL_ (some 29) rfl rfl Tryd.func55 (by kernel_rfl) rfl #[.agg (nums .i64 r).toArray, .agg (nums .i64 r).toArray] rfl (by (try simp only [List.map_toArray, List.map_cons, List.map_nil]); first | done | rfl) ?_; refine (laws_eqRoot.calls _ NR.out _ NR.out _ _ (if_pos rfl)).mono ?_; rintro e_ w3 ⟨rfl, b_⟩; refine ⟨_, rfl, ?_⟩; have HB3 := Aside0.mk (below_then HB2.out HB2.out.size b_); clear b_ HB2))
  go_ret
  exact ⟨rfl, HB3.out⟩

open Go.Proofs.YtkghgjehjchajaaDoorW Go.Proofs.YtkghgjehjchajaaDoorW.PrintHand Go.Proofs.YtkghgjehjchajaaDoorW.PrintHx
/-! ### laws_FnExactDecodeSnap: function 4 -/
def laws_FnExactDecodeSnap.Facts (l0 : List Int) : Prop := (∃ (k : Nat), (¬ ((l0.length : Int) > 1048576) → (∃ (r1_0 : List Int) (kc : Nat) (cc : Int) (xx : Int) (xs : ByteArray) (xp : Int) (xq : Int) (xr : List Int) (xk : Int) (r2_0 : List Int) (r3_0 : List Int), laws_toByteS.f k l0 = some r1_0 ∧ spec_CheckName.f kc (nameS l0) = some cc ∧ impl_CheckName.f kc (nameS l0) = some cc ∧ (cc = 0 → (nameS l0).size ≤ 26) ∧ (∀ x ∈ l0, 0 ≤ x ∧ x ≤ 255) ∧ xr.length = 15 ∧ snapA cc l0 = (xx, xs, xp, xq, xr, xk) ∧ snapB cc l0 = (xx, xs, xp, xq, xr, xk) ∧ r1_0 = l0 ∧ laws_toByteS.f k l0 = some r2_0 ∧ r2_0 = l0 ∧ laws_toByteS.f k l0 = some r3_0 ∧ laws_eqByteS.f k r2_0 r3_0 = some true)))
def laws_FnExactDecodeSnap.Pure : Prop := ∀ (l0 : List Int), (l0.length ≤ maxLen ∧ ∀ q154 ∈ l0, (Lit.int .u8 q154).wf = true) → laws_FnExactDecodeSnap.Facts l0
set_option maxHeartbeats 8000000 in
set_option maxRecDepth 100000 in
theorem laws_FnExactDecodeSnap.calls (A0 : Option Addr) (c0 : Nat) (l0 : List Int) (w : World) (hv : Kd.C (Kd.int .u8) w (some ⟨0, 0, none⟩) 8 Go.Proofs.YtkghgjehjchajaaDoorW.PrintSnp.magicS) (hr0 : Kd.C (Kd.int .u8) w A0 l0.length l0) (hc0 : l0.length ≤ c0) (hf : laws_FnExactDecodeSnap.Facts l0) :
    Calls Tryd.prog 4 #[.slice A0 l0.length c0] w fun e w' => e = .returned (.bool true) ∧ Below w.heap.size w w' := by
  have HR0 := Aside0.mk hr0; have HC0 := Aside0.mk hc0; clear hr0 hc0
  have ZS33 : ∀ w, (zeroValue 33).run Tryd.prog w = .ok (.agg (snapC 0 ByteArray.empty 0 0 (List.replicate 15 0)).toArray) w := fun _ => by kernel_rfl
  have HV := Aside0.mk hv; clear hv
  unfold laws_FnExactDecodeSnap.Facts at hf
  have HB0 : Aside0 (Below w.heap.size w w) := ⟨Below.refl _ _⟩
  obtain ⟨s0, Sz0⟩ : ∃ s0, Aside0 (w.heap.size = s0) := ⟨_, ⟨rfl⟩⟩
  have hw0 : w.heap.size ≤ s0 := Nat.le_of_eq Sz0.out
  have hw1 : s0 ≤ w.heap.size := Nat.le_of_eq Sz0.out.symm
  obtain ⟨k, hf⟩ := hf
  by_cases g0_ : (l0.length : Int) > 1048576
  · clear hf
    (try (have g0__0 : decide (1048576 < (l0.length : Int)) = true := decide_eq_true g0_))
    (try (have g0__1 : decide (1048576 < l0.length) = true := decide_eq_true (by omega)))
    go_enter Tryd.func4, Tryd.ntmps4
    go_wp2
    go_ret
    exact ⟨rfl, HB0.out⟩
  replace hf := hf g0_
  (try (have g0__0 : decide (1048576 < (l0.length : Int)) = false := decide_eq_false g0_))
  (try (have g0__1 : decide (1048576 < l0.length) = false := decide_eq_false (by omega)))
  have G0_ := Aside0.mk g0_
  clear g0_
  obtain ⟨r1_0, kc, cc, xx, xs, xp, xq, xr, xk, r2_0, r3_0, eE1_, eEC1_, eEC2_, eEC3_, eEC4_, eNR2_, eED1_, eED2_, eEQ2_, eE2_, eEQ6_, eE3_, eE4_⟩ := hf
  have E1 := Aside0.mk eE1_
  clear eE1_
  have EC1 := Aside0.mk eEC1_
  clear eEC1_
  have EC2 := Aside0.mk eEC2_
  clear eEC2_
  have EC3 := Aside0.mk eEC3_
  clear eEC3_
  have EC4 := Aside0.mk eEC4_
  clear eEC4_
  have NR2 := Aside0.mk eNR2_
  clear eNR2_
  have ED1 := Aside0.mk eED1_
  clear eED1_
  have ED2 := Aside0.mk eED2_
  clear eED2_
  have EQ2 := Aside0.mk eEQ2_
  clear eEQ2_
  have E2 := Aside0.mk eE2_
  clear eE2_
  have EQ6 := Aside0.mk eEQ6_
  clear eEQ6_
  have E3 := Aside0.mk eE3_
  clear eE3_
  have E4 := Aside0.mk eE4_
  clear eE4_
  go_enter Tryd.func4, Tryd.ntmps4
  go_wp2_with (first | ((with_reducible refine gate_dst (N := 13) rfl ?_); refine goesL_ (some 13) rfl rfl Tryd.func17 (by kernel_rfl) rfl #[.slice A0 l0.length c0] rfl (by (try simp only [List.map_toArray, List.map_cons, List.map_nil]); first | done | rfl) ?_; refine (laws_toByteS.calls _ _ _ _ _ _ (Kd.C_below HR0.out HB0.out) HC0.out E1.out).mono ?_; rintro e_ w1 ⟨v0_, rfl, R1_0, b1⟩; obtain ⟨A1_0, c1_0, rfl⟩ := Kd.R_slice R1_0; refine ⟨_, rfl, ?_⟩; obtain ⟨s1, L1, Sz1⟩ := size_letter Sz0 (kept_below b1); have O1_0_1 := own_btw R1_0 Sz0.out Sz1 HB0.out.size; clear R1_0; have K0 := kept_below b1; have HB1 := Aside0.mk (below_then HB0.out HB0.out.size b1); clear b1; clear K0 HB0) | ((with_reducible refine gate_dst (N := 14) rfl ?_); refine goesL_ (some 14) rfl rfl Tryd.func16 (by kernel_rfl) rfl #[.slice A1_0 r1_0.length c1_0] rfl (by (try simp only [List.map_toArray, List.map_cons, List.map_nil]); first | done | rfl) ?_; refine (spec_DecodeSnap.calls _ _ _ kc cc (by simpa only [EQ2.out] using EC1.out) (by simpa only [EQ2.out] using EC3.out) xx xs xp xq xr xk _ (Kd.R_reads' O1_0_1.out).2.2 (Kd.R_reads' O1_0_1.out).2.1 (by simpa only [EQ2.out] using EC4.out) (by simpa only [EQ2.out] using ED1.out)).mono ?_; rintro e_ w2 ⟨rfl, b2⟩; refine ⟨_, rfl, ?_⟩; obtain ⟨s2, L2, Sz2⟩ := size_letter Sz1 (kept_below b2); have K1 := kept_below b2; have HB2 := Aside0.mk (below_then HB1.out HB1.out.size b2); have O1_0_2 := Aside0.mk (Kd.R_kept O1_0_1.out K1 (fun _ _ h_ => h_)); clear b2; clear K1 HB1 O1_0_1) | ((with_reducible refine gate_dst (N := 3) rfl ?_); refine hx_alloc rfl 3 rfl 33 rfl Sz2 (.agg (snapC 0 ByteArray.empty 0 0 (List.replicate 15 0)).toArray) (snapC 0 ByteArray.empty 0 0 (List.replicate 15 0)).toArray ZS33 (by simp [Value.cells]) ?_; intro w3 s3 L3 Sz3 b3 g_; have H3_3 := Aside0.mk g_; clear g_; have K2 := kept_below b3; have HB3 := Aside0.mk (below_then HB2.out HB2.out.size b3); have O1_0_3 := Aside0.mk (Kd.R_kept O1_0_2.out K2 (fun _ _ h_ => h_)); clear b3; clear K2 HB2 O1_0_2) | ((with_reducible refine gate_store (t := 33) (p := 3) (v := .tmp 15) rfl ?_); refine hx_store rfl rfl 33 (.tmp 3) (.tmp 15) rfl s2 19 rfl (snapC xx xs xp xq xr).toArray rfl (by kernel_rfl) (snapC_size NR2.out) (snapC_one _ _ _ _ _) H3_3.out snapZ_size ?_; intro w4 t4 g4; have K3 := kept_touch t4; have HB4 := Aside0.mk (t4.below HB3.out (by omega)); have H3_4 := Aside0.mk g4; have O1_0_4 := Aside0.mk (Kd.R_kept O1_0_3.out K3 (fun k_ hk_ h_ => by have h1_ := hk_.1; have h2_ := hk_.2; have h3_ : k_ = _ := h_; omega)); have Sz4 := Aside0.mk (t4.size.trans Sz3.out); clear t4 g4; clear K3 HB3 H3_3 O1_0_3) | ((with_reducible refine gate_dst (N := 18) rfl ?_); refine goesL_ (some 18) rfl rfl Tryd.func17 (by kernel_rfl) rfl #[.slice A0 l0.length c0] rfl (by (try simp only [List.map_toArray, List.map_cons, List.map_nil]); first | done | rfl) ?_; refine (laws_toByteS.calls _ _ _ _ _ _ (Kd.C_below HR0.out HB4.out) HC0.out E2.out).mono ?_; rintro e_ w5 ⟨v0_, rfl, R2_0, b5⟩; obtain ⟨A2_0, c2_0, rfl⟩ := Kd.R_slice R2_0; refine ⟨_, rfl, ?_⟩; obtain ⟨s5, L5, Sz5⟩ := size_letter Sz4 (kept_below b5); have O2_0_5 := own_btw R2_0 Sz4.out Sz5 HB4.out.size; clear R2_0; have K4 := kept_below b5; have HB5 := Aside0.mk (below_then HB4.out HB4.out.size b5); have H3_5 := Aside0.mk (blk_kept H3_4.out K4 (fun h_ => h_)); have O1_0_5 := Aside0.mk (Kd.R_kept O1_0_4.out K4 (fun _ _ h_ => h_)); clear b5; clear K4 HB4 H3_4 O1_0_4) | ((with_reducible refine gate_dst (N := 21) rfl ?_); refine goesL_ (some 21) rfl rfl Tryd.func18 (by kernel_rfl) rfl #[.slice A2_0 r2_0.length c2_0] rfl (by (try simp only [List.map_toArray, List.map_cons, List.map_nil]); first | done | rfl) ?_; refine (impl_DecodeSnap.calls _ _ _ kc cc (by simpa only [EQ6.out] using EC2.out) (by simpa only [EQ6.out] using EC3.out) xx xs xp xq xr xk _ (Kd.C_below HV.out HB5.out) (Kd.R_reads' O2_0_5.out).2.2 (Kd.R_reads' O2_0_5.out).2.1 (by simpa only [EQ6.out] using EC4.out) (by simpa only [EQ6.out] using ED2.out)).mono ?_; rintro e_ w6 ⟨rfl, b6⟩; refine ⟨_, rfl, ?_⟩; obtain ⟨s6, L6, Sz6⟩ := size_letter Sz5 (kept_below b6); have K5 := kept_below b6; have HB6 := Aside0.mk (below_then HB5.out HB5.out.size b6); have H3_6 := Aside0.mk (blk_kept H3_5.out K5 (fun h_ => h_)); have O1_0_6 := Aside0.mk (Kd.R_kept O1_0_5.out K5 (fun _ _ h_ => h_)); have O2_0_6 := Aside0.mk (Kd.R_kept O2_0_5.out K5 (fun _ _ h_ => h_)); clear b6; clear K5 HB5 H3_5 O1_0_5 O2_0_5) | ((with_reducible refine gate_dst (N := 6) rfl ?_); refine hx_alloc rfl 6 rfl 33 rfl Sz6 (.agg (snapC 0 ByteArray.empty 0 0 (List.replicate 15 0)).toArray) (snapC 0 ByteArray.empty 0 0 (List.replicate 15 0)).toArray ZS33 (by simp [Value.cells]) ?_; intro w7 s7 L7 Sz7 b7 g_; have H6_7 := Aside0.mk g_; clear g_; have K6 := kept_below b7; have HB7 := Aside0.mk (below_then HB6.out HB6.out.size b7); have H3_7 := Aside0.mk (blk_kept H3_6.out K6 (fun h_ => h_)); have O1_0_7 := Aside0.mk (Kd.R_kept O1_0_6.out K6 (fun _ _ h_ => h_)); have O2_0_7 := Aside0.mk (Kd.R_kept O2_0_6.out K6 (fun _ _ h_ => h_)); clear b7; clear K6 HB6 H3_6 O1_0_6 O2_0_6) | ((with_reducible refine gate_store (t := 33) (p := 6) (v := .tmp 22) rfl ?_); refine hx_store rfl rfl 33 (.tmp 6) (.tmp 22) rfl s6 19 rfl (snapC xx xs xp xq xr).toArray rfl (by kernel_rfl) (snapC_size NR2.out) (snapC_one _ _ _ _ _) H6_7.out snapZ_size ?_; intro w8 t8 g8; have K7 := kept_touch t8; have HB8 := Aside0.mk (t8.below HB7.out (by omega)); have H3_8 := Aside0.mk (blk_kept H3_7.out K7 (by show ¬ (_ = _); omega)); have H6_8 := Aside0.mk g8; have O1_0_8 := Aside0.mk (Kd.R_kept O1_0_7.out K7 (fun k_ hk_ h_ => by have h1_ := hk_.1; have h2_ := hk_.2; have h3_ : k_ = _ := h_; omega)); have O2_0_8 := Aside0.mk (Kd.R_kept O2_0_7.out K7 (fun k_ hk_ h_ => by have h1_ := hk_.1; have h2_ := hk_.2; have h3_ : k_ = _ := h_; omega)); have Sz8 := Aside0.mk (t8.size.trans Sz7.out); clear t8 g8; clear K7 HB7 H3_7 H6_7 O1_0_7 O2_0_7) | ((with_reducible refine gate_dst (N := 24) rfl ?_); refine hx_load rfl 33 (.tmp 6) rfl s6 19 rfl Tryd.underlying33 rfl (by kernel_rfl) H6_8.out (snapC_size NR2.out) ?_) | ((with_reducible refine gate_dst (N := 25) rfl ?_); refine hx_load rfl 33 (.tmp 3) rfl s2 19 rfl Tryd.underlying33 rfl (by kernel_rfl) H3_8.out (snapC_size NR2.out) ?_) | ((with_reducible refine gate_dst (N := 26) rfl ?_); refine goesL_ (some 26) rfl rfl Tryd.func19 (by kernel_rfl) rfl #[.agg (snapC xx xs xp xq xr).toArray, .agg (snapC xx xs xp xq xr).toArray] rfl (by (try simp only [List.map_toArray, List.map_cons, List.map_nil]); first | done | rfl) ?_; refine (laws_eqSnap.calls xx xs xp xq xr NR2.out _).mono ?_; rintro e_ w9 ⟨rfl, b9⟩; refine ⟨_, rfl, ?_⟩; obtain ⟨s9, L9, Sz9⟩ := size_letter Sz8 (kept_below b9); have K8 := kept_below b9; have HB9 := Aside0.mk (below_then HB8.out HB8.out.size b9); have H3_9 := Aside0.mk (blk_kept H3_8.out K8 (fun h_ => h_)); have H6_9 := Aside0.mk (blk_kept H6_8.out K8 (fun h_ => h_)); have O1_0_9 := Aside0.mk (Kd.R_kept O1_0_8.out K8 (fun _ _ h_ => h_)); have O2_0_9 := Aside0.mk (Kd.R_kept O2_0_8.out K8 (fun _ _ h_ => h_)); clear b9; clear K8 HB8 H3_8 H6_8 O1_0_8 O2_0_8) | ((with_reducible refine gate_dst (N := 35) rfl ?_); refine goesL_ (some 35) rfl rfl Tryd.func17 (by kernel_rfl) rfl #[.slice A0 l0.length c0] rfl (by (try simp only [List.map_toArray, List.map_cons, List.map_nil]); first | done | rfl) ?_; refine (laws_toByteS.calls _ _ _ _ _ _ (Kd.C_below HR0.out HB9.out) HC0.out E3.out).mono ?_; rintro e_ w10 ⟨v0_, rfl, R3_0, b10⟩; obtain ⟨A3_0, c3_0, rfl⟩ := Kd.R_slice R3_0; refine ⟨_, rfl, ?_⟩; obtain ⟨s10, L10, Sz10⟩ := size_letter Sz9 (kept_below b10); have O3_0_10 := own_btw R3_0 Sz9.out Sz10 HB9.out.size; clear R3_0; have K9 := kept_below b10; have HB10 := Aside0.mk (below_then HB9.out HB9.out.size b10); have H3_10 := Aside0.mk (blk_kept H3_9.out K9 (fun h_ => h_)); have H6_10 := Aside0.mk (blk_kept H6_9.out K9 (fun h_ => h_)); have O1_0_10 := Aside0.mk (Kd.R_kept O1_0_9.out K9 (fun _ _ h_ => h_)); have O2_0_10 := Aside0.mk (Kd.R_kept O2_0_9.out K9 (fun _ _ h_ => h_)); clear b10; clear K9 HB9 H3_9 H6_9 O1_0_9 O2_0_9) | ((with_reducible refine gate_dst (N := 36) rfl ?_); refine goesL_ (some 36) rfl rfl Tryd.func13 (by kernel_rfl) rfl #[.slice A2_0 r2_0.length c2_0, .slice A3_0 r3_0.length c3_0] rfl (by (try simp only [List.map_toArray, List.map_cons, List.map_nil]); first | done | rfl) ?_; refine (laws_eqByteS.calls _ _ _ _ _ _ _ _ _ (Kd.R_reads' O2_0_10.out).2.2 (Kd.R_reads' O2_0_10.out).2.1 (Kd.R_reads' O3_0_10.out).2.2 (Kd.R_reads' O3_0_10.out).2.1 E4.out).mono ?_; rintro e_ w11 ⟨rfl, b_⟩; have b11 := kept_drawn b_; refine ⟨_, rfl, ?_⟩; obtain ⟨s11, L11, Sz11⟩ := size_letter Sz10 (kept_below b11); have K10 := kept_below b11; have HB11 := Aside0.mk (below_then HB10.out HB10.out.size b11); have H3_11 := Aside0.mk (blk_kept H3_10.out K10 (fun h_ => h_)); have H6_11 := Aside0.mk (blk_kept H6_10.out K10 (fun h_ => h_)); have O1_0_11 := Aside0.mk (Kd.R_kept O1_0_10.out K10 (fun _ _ h_ => h_)); have O2_0_11 := Aside0.mk (Kd.R_kept O2_0_10.out K10 (fun _ _ h_ => h_)); have O3_0_11 := Aside0.mk (Kd.R_kept O3_0_10.out K10 (fun _ _ h_ => h_)); clear b11; clear K10 HB10 H3_10 H6_10 O1_0_10 O2_0_10 O3_0_10))
  go_ret
  exact ⟨rfl, HB11.out⟩

end Go.Proofs.YtkghgjehjchajaaDoor.PFnExactDecodeSnap
