-- Written by a program of this session (patch_print.py over the kit print)
import Derived.Test.YtkghgjehjchajaaPFnExactEncodeInodex0
import Derived.Test.YtkghgjehjchajaaPFnExactEncodeInodex11
namespace Go.Proofs.Ytkghgjehjchajaa.PFnExactEncodeInode
open Go.RowKit Go.Proofs.YtkghgjehjchajaaW.PrintWords Go.Proofs.YtkghgjehjchajaaW.PrintLast Go.Proofs.YtkghgjehjchajaaW.PrintMore
attribute [local go_sem] max2_int min2_int max_two min_two max_three min_three max_four min_four   -- for this text's walks alone
set_option linter.unusedVariables false
set_option linter.unusedSimpArgs false

open Go.Proofs.YtkghgjehjchajaaW Go.Proofs.YtkghgjehjchajaaW.PrintHand Go.Proofs.YtkghgjehjchajaaW.PrintHx
/-! ### laws_toInode: function 22 -/
def laws_toInode.f (a0 : List Int) : Option (List Int) := if a0.length = 24 then some a0 else none
theorem laws_toInode.same (a0 : List Int) (h : a0.length = 24) (M4 M5 M6 M7 M8 M9 M10 M11 M12 M14 : List Int) (q4 : M4 = (List.replicate 24 0).set 0 (a0.getD 0 0)) (q5 : M5 = M4.set 1 (a0.getD 1 0)) (q6 : M6 = M5.set 2 (a0.getD 2 0)) (q7 : M7 = M6.set 3 (a0.getD 3 0)) (q8 : M8 = M7.set 4 (a0.getD 4 0)) (q9 : M9 = M8.set 5 (a0.getD 5 0)) (q10 : M10 = M9.set 6 (a0.getD 6 0)) (q11 : M11 = M10.set 7 (a0.getD 7 0)) (q12 : M12 = M11.set 8 (a0.getD 8 0)) (q14 : M14 = M12.take 9 ++ (seg a0 9 15) ++ M12.drop (9 + 15)) : M14 = a0 := by
  subst q4
  subst q5
  subst q6
  subst q7
  subst q8
  subst q9
  subst q10
  subst q11
  subst q12
  subst q14
  obtain ⟨x0, a1, rfl, h0⟩ := cons_of_len h
  obtain ⟨x1, a2, rfl, h1⟩ := cons_of_len h0
  obtain ⟨x2, a3, rfl, h2⟩ := cons_of_len h1
  obtain ⟨x3, a4, rfl, h3⟩ := cons_of_len h2
  obtain ⟨x4, a5, rfl, h4⟩ := cons_of_len h3
  obtain ⟨x5, a6, rfl, h5⟩ := cons_of_len h4
  obtain ⟨x6, a7, rfl, h6⟩ := cons_of_len h5
  obtain ⟨x7, a8, rfl, h7⟩ := cons_of_len h6
  obtain ⟨x8, a9, rfl, h8⟩ := cons_of_len h7
  obtain ⟨x9, a10, rfl, h9⟩ := cons_of_len h8
  obtain ⟨x10, a11, rfl, h10⟩ := cons_of_len h9
  obtain ⟨x11, a12, rfl, h11⟩ := cons_of_len h10
  obtain ⟨x12, a13, rfl, h12⟩ := cons_of_len h11
  obtain ⟨x13, a14, rfl, h13⟩ := cons_of_len h12
  obtain ⟨x14, a15, rfl, h14⟩ := cons_of_len h13
  obtain ⟨x15, a16, rfl, h15⟩ := cons_of_len h14
  obtain ⟨x16, a17, rfl, h16⟩ := cons_of_len h15
  obtain ⟨x17, a18, rfl, h17⟩ := cons_of_len h16
  obtain ⟨x18, a19, rfl, h18⟩ := cons_of_len h17
  obtain ⟨x19, a20, rfl, h19⟩ := cons_of_len h18
  obtain ⟨x20, a21, rfl, h20⟩ := cons_of_len h19
  obtain ⟨x21, a22, rfl, h21⟩ := cons_of_len h20
  obtain ⟨x22, a23, rfl, h22⟩ := cons_of_len h21
  obtain ⟨x23, a24, rfl, h23⟩ := cons_of_len h22
  obtain rfl := List.length_eq_zero_iff.mp h23
  rfl
set_option maxHeartbeats 8000000 in
set_option maxRecDepth 100000 in
theorem laws_toInode.calls (a0 : List Int) (n0 : a0.length = 24) (r : List Int) (w : World) (h : laws_toInode.f a0 = some r) :
    Calls Try.prog 22 #[.agg (nums .i64 a0).toArray] w fun e w' => e = .returned (.agg (nums .i64 r).toArray) ∧ Below w.heap.size w w' := by
  unfold laws_toInode.f at h
  rw [if_pos n0] at h
  obtain rfl := Option.some.inj h
  have N_ := Aside0.mk n0
  clear n0 h
  have HB0 : Aside0 (Below w.heap.size w w) := ⟨Below.refl _ _⟩
  obtain ⟨s0, Sz0⟩ : ∃ s0, Aside0 (w.heap.size = s0) := ⟨_, ⟨rfl⟩⟩
  have hw0 : w.heap.size ≤ s0 := Nat.le_of_eq Sz0.out
  have hw1 : s0 ≤ w.heap.size := Nat.le_of_eq Sz0.out.symm
  have Z42 : ∀ w, (zeroValue 42).run Try.prog w = .ok (.agg (nums .i64 (List.replicate 24 0)).toArray) w := fun _ => by kernel_rfl
  go_enter Try.func22, Try.ntmps22
  go_wp2_with (first | ((with_reducible refine gate_dst (N := 1) rfl ?_); refine hx_box rfl 1 rfl 39 (.tmp 0) rfl Sz0 (.agg (nums .i64 a0).toArray) (nums .i64 a0).toArray rfl rfl ?_; intro w1 s1 L1 Sz1 b1 g_; have H1_1 := Aside0.mk g_; clear g_; have K0 := kept_below b1; have HB1 := Aside0.mk (below_then HB0.out HB0.out.size b1); clear b1; clear K0 HB0) | ((with_reducible refine gate_dst (N := 2) rfl ?_); refine hx_alloc rfl 2 rfl 42 rfl Sz1 (.agg (nums .i64 (List.replicate 24 0)).toArray) (nums .i64 (List.replicate 24 0)).toArray Z42 rfl ?_; intro w2 s2 L2 Sz2 b2 g_; have H2_2 := Aside0.mk g_; clear g_; have K1 := kept_below b2; have HB2 := Aside0.mk (below_then HB1.out HB1.out.size b2); have H1_2 := Aside0.mk (blk_kept H1_1.out K1 (fun h_ => h_)); clear b2; clear K1 HB1 H1_1) | ((with_reducible refine gate_dst (N := 3) rfl ?_); refine hx_alloc rfl 3 rfl 42 rfl Sz2 (.agg (nums .i64 (List.replicate 24 0)).toArray) (nums .i64 (List.replicate 24 0)).toArray Z42 rfl ?_; intro w3 s3 L3 Sz3 b3 g_; have H3_3 := Aside0.mk g_; clear g_; have K2 := kept_below b3; have HB3 := Aside0.mk (below_then HB2.out HB2.out.size b3); have H1_3 := Aside0.mk (blk_kept H1_2.out K2 (fun h_ => h_)); have H2_3 := Aside0.mk (blk_kept H2_2.out K2 (fun h_ => h_)); clear b3; clear K2 HB2 H1_2 H2_2) | ((with_reducible refine gate_dst (N := 5) rfl ?_); refine hx_loadf rfl 3 (.tmp 4) rfl s0 0 rfl Try.underlying3 rfl H1_3.out (lt_len (n := 24) N_.out (by decide)) ?_) | ((with_reducible refine gate_store (t := 3) (p := 6) (v := .tmp 5) rfl ?_); refine hx_storef rfl rfl 3 (.tmp 6) (.tmp 5) rfl s2 0 rfl (a0.getD 0 0) rfl (by kernel_rfl) H3_3.out (lt_len (n := 24) (by simp) (by decide)) ?_; intro w4 M4 t4 Q4 l_ g4; have N4 : Aside0 (M4.length = 24) := ⟨l_.out.trans (by simp)⟩; clear l_; have K3 := kept_touch t4; have HB4 := Aside0.mk (t4.below HB3.out (by omega)); have H1_4 := Aside0.mk (blk_kept H1_3.out K3 (by show ¬ (_ = _); omega)); have H2_4 := Aside0.mk (blk_kept H2_3.out K3 (by show ¬ (_ = _); omega)); have H3_4 := Aside0.mk g4; have Sz4 := Aside0.mk (t4.size.trans Sz3.out); clear t4 g4; clear K3 HB3 H1_3 H2_3 H3_3) | ((with_reducible refine gate_dst (N := 8) rfl ?_); refine hx_loadf rfl 3 (.tmp 7) rfl s0 1 rfl Try.underlying3 rfl H1_4.out (lt_len (n := 24) N_.out (by decide)) ?_) | ((with_reducible refine gate_store (t := 3) (p := 9) (v := .tmp 8) rfl ?_); refine hx_storef rfl rfl 3 (.tmp 9) (.tmp 8) rfl s2 1 rfl (a0.getD 1 0) rfl (by kernel_rfl) H3_4.out (lt_len (n := 24) N4.out (by decide)) ?_; intro w5 M5 t5 Q5 l_ g5; have N5 : Aside0 (M5.length = 24) := ⟨l_.out.trans N4.out⟩; clear l_; have K4 := kept_touch t5; have HB5 := Aside0.mk (t5.below HB4.out (by omega)); have H1_5 := Aside0.mk (blk_kept H1_4.out K4 (by show ¬ (_ = _); omega)); have H2_5 := Aside0.mk (blk_kept H2_4.out K4 (by show ¬ (_ = _); omega)); have H3_5 := Aside0.mk g5; have Sz5 := Aside0.mk (t5.size.trans Sz4.out); clear t5 g5; clear K4 HB4 H1_4 H2_4 H3_4) | ((with_reducible refine gate_dst (N := 11) rfl ?_); refine hx_loadf rfl 3 (.tmp 10) rfl s0 2 rfl Try.underlying3 rfl H1_5.out (lt_len (n := 24) N_.out (by decide)) ?_) | ((with_reducible refine gate_store (t := 3) (p := 12) (v := .tmp 11) rfl ?_); refine hx_storef rfl rfl 3 (.tmp 12) (.tmp 11) rfl s2 2 rfl (a0.getD 2 0) rfl (by kernel_rfl) H3_5.out (lt_len (n := 24) N5.out (by decide)) ?_; intro w6 M6 t6 Q6 l_ g6; have N6 : Aside0 (M6.length = 24) := ⟨l_.out.trans N5.out⟩; clear l_; have K5 := kept_touch t6; have HB6 := Aside0.mk (t6.below HB5.out (by omega)); have H1_6 := Aside0.mk (blk_kept H1_5.out K5 (by show ¬ (_ = _); omega)); have H2_6 := Aside0.mk (blk_kept H2_5.out K5 (by show ¬ (_ = _); omega)); have H3_6 := Aside0.mk g6; have Sz6 := Aside0.mk (t6.size.trans Sz5.out); clear t6 g6; clear K5 HB5 H1_5 H2_5 H3_5) | ((with_reducible refine gate_dst (N := 14) rfl ?_); refine hx_loadf rfl 3 (.tmp 13) rfl s0 3 rfl Try.underlying3 rfl H1_6.out (lt_len (n := 24) N_.out (by decide)) ?_) | ((with_reducible refine gate_store (t := 3) (p := 15) (v := .tmp 14) rfl ?_); refine hx_storef rfl rfl 3 (.tmp 15) (.tmp 14) rfl s2 3 rfl (a0.getD 3 0) rfl (by kernel_rfl) H3_6.out (lt_len (n := 24) N6.out (by decide)) ?_; intro w7 M7 t7 Q7 l_ g7; have N7 : Aside0 (M7.length = 24) := ⟨l_.out.trans N6.out⟩; clear l_; have K6 := kept_touch t7; have HB7 := Aside0.mk (t7.below HB6.out (by omega)); have H1_7 := Aside0.mk (blk_kept H1_6.out K6 (by show ¬ (_ = _); omega)); have H2_7 := Aside0.mk (blk_kept H2_6.out K6 (by show ¬ (_ = _); omega)); have H3_7 := Aside0.mk g7; have Sz7 := Aside0.mk (t7.size.trans Sz6.out); clear t7 g7; clear K6 HB6 H1_6 H2_6 H3_6) | ((with_reducible refine gate_dst (N := 17) rfl ?_); refine hx_loadf rfl 3 (.tmp 16) rfl s0 4 rfl Try.underlying3 rfl H1_7.out (lt_len (n := 24) N_.out (by decide)) ?_) | ((with_reducible refine gate_store (t := 3) (p := 18) (v := .tmp 17) rfl ?_); refine hx_storef rfl rfl 3 (.tmp 18) (.tmp 17) rfl s2 4 rfl (a0.getD 4 0) rfl (by kernel_rfl) H3_7.out (lt_len (n := 24) N7.out (by decide)) ?_; intro w8 M8 t8 Q8 l_ g8; have N8 : Aside0 (M8.length = 24) := ⟨l_.out.trans N7.out⟩; clear l_; have K7 := kept_touch t8; have HB8 := Aside0.mk (t8.below HB7.out (by omega)); have H1_8 := Aside0.mk (blk_kept H1_7.out K7 (by show ¬ (_ = _); omega)); have H2_8 := Aside0.mk (blk_kept H2_7.out K7 (by show ¬ (_ = _); omega)); have H3_8 := Aside0.mk g8; have Sz8 := Aside0.mk (t8.size.trans Sz7.out); clear t8 g8; clear K7 HB7 H1_7 H2_7 H3_7) | ((with_reducible refine gate_dst (N := 20) rfl ?_); refine hx_loadf rfl 3 (.tmp 19) rfl s0 5 rfl Try.underlying3 rfl H1_8.out (lt_len (n := 24) N_.out (by decide)) ?_) | ((with_reducible refine gate_store (t := 3) (p := 21) (v := .tmp 20) rfl ?_); refine hx_storef rfl rfl 3 (.tmp 21) (.tmp 20) rfl s2 5 rfl (a0.getD 5 0) rfl (by kernel_rfl) H3_8.out (lt_len (n := 24) N8.out (by decide)) ?_; intro w9 M9 t9 Q9 l_ g9; have N9 : Aside0 (M9.length = 24) := ⟨l_.out.trans N8.out⟩; clear l_; have K8 := kept_touch t9; have HB9 := Aside0.mk (t9.below HB8.out (by omega)); have H1_9 := Aside0.mk (blk_kept H1_8.out K8 (by show ¬ (_ = _); omega)); have H2_9 := Aside0.mk (blk_kept H2_8.out K8 (by show ¬ (_ = _); omega)); have H3_9 := Aside0.mk g9; have Sz9 := Aside0.mk (t9.size.trans Sz8.out); clear t9 g9; clear K8 HB8 H1_8 H2_8 H3_8) | ((with_reducible refine gate_dst (N := 23) rfl ?_); refine hx_loadf rfl 3 (.tmp 22) rfl s0 6 rfl Try.underlying3 rfl H1_9.out (lt_len (n := 24) N_.out (by decide)) ?_) | ((with_reducible refine gate_store (t := 3) (p := 24) (v := .tmp 23) rfl ?_); refine hx_storef rfl rfl 3 (.tmp 24) (.tmp 23) rfl s2 6 rfl (a0.getD 6 0) rfl (by kernel_rfl) H3_9.out (lt_len (n := 24) N9.out (by decide)) ?_; intro w10 M10 t10 Q10 l_ g10; have N10 : Aside0 (M10.length = 24) := ⟨l_.out.trans N9.out⟩; clear l_; have K9 := kept_touch t10; have HB10 := Aside0.mk (t10.below HB9.out (by omega)); have H1_10 := Aside0.mk (blk_kept H1_9.out K9 (by show ¬ (_ = _); omega)); have H2_10 := Aside0.mk (blk_kept H2_9.out K9 (by show ¬ (_ = _); omega)); have H3_10 := Aside0.mk g10; have Sz10 := Aside0.mk (t10.size.trans Sz9.out); clear t10 g10; clear K9 HB9 H1_9 H2_9 H3_9) | ((with_reducible refine gate_dst (N := 26) rfl ?_); refine hx_loadf rfl 3 (.tmp 25) rfl s0 7 rfl Try.underlying3 rfl H1_10.out (lt_len (n := 24) N_.out (by decide)) ?_) | ((with_reducible refine gate_store (t := 3) (p := 27) (v := .tmp 26) rfl ?_); refine hx_storef rfl rfl 3 (.tmp 27) (.tmp 26) rfl s2 7 rfl (a0.getD 7 0) rfl (by kernel_rfl) H3_10.out (lt_len (n := 24) N10.out (by decide)) ?_; intro w11 M11 t11 Q11 l_ g11; have N11 : Aside0 (M11.length = 24) := ⟨l_.out.trans N10.out⟩; clear l_; have K10 := kept_touch t11; have HB11 := Aside0.mk (t11.below HB10.out (by omega)); have H1_11 := Aside0.mk (blk_kept H1_10.out K10 (by show ¬ (_ = _); omega)); have H2_11 := Aside0.mk (blk_kept H2_10.out K10 (by show ¬ (_ = _); omega)); have H3_11 := Aside0.mk g11; have Sz11 := Aside0.mk (t11.size.trans Sz10.out); clear t11 g11; clear K10 HB10 H1_10 H2_10 H3_10) | ((with_reducible refine gate_dst (N := 29) rfl ?_); refine hx_loadf rfl 3 (.tmp 28) rfl s0 8 rfl Try.underlying3 rfl H1_11.out (lt_len (n := 24) N_.out (by decide)) ?_) | ((with_reducible refine gate_store (t := 3) (p := 30) (v := .tmp 29) rfl ?_); refine hx_storef rfl rfl 3 (.tmp 30) (.tmp 29) rfl s2 8 rfl (a0.getD 8 0) rfl (by kernel_rfl) H3_11.out (lt_len (n := 24) N11.out (by decide)) ?_; intro w12 M12 t12 Q12 l_ g12; have N12 : Aside0 (M12.length = 24) := ⟨l_.out.trans N11.out⟩; clear l_; have K11 := kept_touch t12; have HB12 := Aside0.mk (t12.below HB11.out (by omega)); have H1_12 := Aside0.mk (blk_kept H1_11.out K11 (by show ¬ (_ = _); omega)); have H2_12 := Aside0.mk (blk_kept H2_11.out K11 (by show ¬ (_ = _); omega)); have H3_12 := Aside0.mk g12; have Sz12 := Aside0.mk (t12.size.trans Sz11.out); clear t12 g12; clear K11 HB11 H1_11 H2_11 H3_11) | ((with_reducible refine gate_dst (N := 32) rfl ?_); refine hx_loadp rfl 24 (.tmp 31) rfl s0 9 15 rfl Try.underlying24 rfl (by kernel_rfl) H1_12.out (le_len (n := 24) N_.out (by decide)) ?_) | ((with_reducible refine gate_dst (N := 33) rfl ?_); refine goesL_ (some 33) rfl rfl Try.func12 (by kernel_rfl) rfl #[.agg (nums .i64 (seg a0 9 15)).toArray] rfl (by (try simp only [List.map_toArray, List.map_cons, List.map_nil]); first | done | rfl) ?_; refine (laws_toRoot.calls _ (part_len (n := 24) N_.out (by decide)) _ _ (if_pos (part_len (n := 24) N_.out (by decide)))).mono ?_; rintro e_ w13 ⟨rfl, b13⟩; refine ⟨_, rfl, ?_⟩; obtain ⟨s13, L13, Sz13⟩ := size_letter Sz12 (kept_below b13); have K12 := kept_below b13; have HB13 := Aside0.mk (below_then HB12.out HB12.out.size b13); have H1_13 := Aside0.mk (blk_kept H1_12.out K12 (fun h_ => h_)); have H2_13 := Aside0.mk (blk_kept H2_12.out K12 (fun h_ => h_)); have H3_13 := Aside0.mk (blk_kept H3_12.out K12 (fun h_ => h_)); clear b13; clear K12 HB12 H1_12 H2_12 H3_12) | ((with_reducible refine gate_store (t := 28) (p := 34) (v := .tmp 33) rfl ?_); refine hx_storep rfl rfl 28 (.tmp 34) (.tmp 33) rfl s2 9 15 rfl (seg a0 9 15) rfl (by kernel_rfl) (part_len (n := 24) N_.out (by decide)) H3_13.out (le_len (n := 24) N12.out (by decide)) ?_; intro w14 M14 t14 Q14 l_ g14; have N14 : Aside0 (M14.length = 24) := ⟨l_.out.trans N12.out⟩; clear l_; have K13 := kept_touch t14; have HB14 := Aside0.mk (t14.below HB13.out (by omega)); have H1_14 := Aside0.mk (blk_kept H1_13.out K13 (by show ¬ (_ = _); omega)); have H2_14 := Aside0.mk (blk_kept H2_13.out K13 (by show ¬ (_ = _); omega)); have H3_14 := Aside0.mk g14; have Sz14 := Aside0.mk (t14.size.trans Sz13.out); clear t14 g14; clear K13 HB13 H1_13 H2_13 H3_13) | ((with_reducible refine gate_dst (N := 35) rfl ?_); refine hx_load rfl 42 (.tmp 3) rfl s2 24 rfl Try.underlying42 rfl (by kernel_rfl) H3_14.out (nums_size _ _ _ N14.out) ?_) | ((with_reducible refine gate_store (t := 42) (p := 2) (v := .tmp 35) rfl ?_); refine hx_store rfl rfl 42 (.tmp 2) (.tmp 35) rfl s1 24 rfl (nums .i64 M14).toArray rfl (by kernel_rfl) (nums_size _ _ _ N14.out) (nums_one _ _) H2_14.out (nums_size _ _ _ (by simp)) ?_; intro w15 t15 g15; have K14 := kept_touch t15; have HB15 := Aside0.mk (t15.below HB14.out (by omega)); have H1_15 := Aside0.mk (blk_kept H1_14.out K14 (by show ¬ (_ = _); omega)); have H2_15 := Aside0.mk g15; have H3_15 := Aside0.mk (blk_kept H3_14.out K14 (by show ¬ (_ = _); omega)); have Sz15 := Aside0.mk (t15.size.trans Sz14.out); clear t15 g15; clear K14 HB14 H1_14 H2_14 H3_14))
  have e_ := laws_toInode.same a0 N_.out _ _ _ _ _ _ _ _ _ _ Q4.out Q5.out Q6.out Q7.out Q8.out Q9.out Q10.out Q11.out Q12.out Q14.out
  have HF := H2_15.out
  rw [e_] at HF
  exact bodyPost_ret (results_cell_row rfl _ _ s1 42 _ (0, 0) _ rfl HF Try.underlying42 rfl (by rw [nums_size _ _ _ N_.out]; kernel_rfl)) rfl ⟨rfl, HB15.out⟩

/-! ### impl_put_int: function 53 -/
def impl_put_int.l0 : Nat → List Int → Int → Int → Int → Int → Option (List Int)
  | 0, _, _, _, _, _ => none
  | k + 1, x0, x1, x3, x9, x10 => if x10 < x9 then (if 0 ≤ (wrap64 (8 * x10)) then (if 0 ≤ (wrap64 (x1 + x10)) then (if (wrap64 (x1 + x10)) < (x0.length : Int) then (impl_put_int.l0 k (x0.set ((wrap64 (x1 + x10)) : Int).toNat ((shr .u64 (IntKind.u64.wrap (x3)) (wrap64 (8 * x10))) % 256)) x1 x3 x9 (wrap64 (x10 + 1))) else (none)) else (none)) else (none)) else (some x0)
def impl_put_int.f (k : Nat) (l0 : List Int) (a1 : Int) (a2 : Int) (a3 : Int) : Option (List Int) := impl_put_int.l0 k l0 a1 a3 a2 0
theorem impl_put_int.mono_l : ∀ k, (∀ y0 y1 y2 y3 y4, LeO (impl_put_int.l0 k y0 y1 y2 y3 y4) (impl_put_int.l0 (k + 1) y0 y1 y2 y3 y4))
  | 0 => fun _ _ _ _ _ r h => by simp [impl_put_int.l0] at h
  | k + 1 => by
    have ih0 := impl_put_int.mono_l k
    · intro y0 y1 y2 y3 y4
      unfold impl_put_int.l0
      repeat' first
      | (with_reducible exact ih0 _ _ _ _ _)
      | (with_reducible exact LeO.refl _)
      | (with_reducible exact LeO.none _)
      | (with_reducible refine LeO.ite ?_ ?_)
      | (with_reducible refine LeO.bind ?_ (fun _ => ?_))
      | exact ih0 _ _ _ _ _
      | exact LeO.none _
      | refine LeO.ite ?_ ?_
      | refine LeO.bind ?_ (fun _ => ?_)
theorem impl_put_int.mono : ∀ a0 a1 a2 a3 k, LeO (impl_put_int.f k a0 a1 a2 a3) (impl_put_int.f (k + 1) a0 a1 a2 a3) := by
  intro a0 a1 a2 a3 k
  have ih0 := impl_put_int.mono_l k
  unfold impl_put_int.f
  repeat' first
      | (with_reducible exact ih0 _ _ _ _ _)
      | (with_reducible exact LeO.refl _)
      | (with_reducible exact LeO.none _)
      | (with_reducible refine LeO.ite ?_ ?_)
      | (with_reducible refine LeO.bind ?_ (fun _ => ?_))
      | exact ih0 _ _ _ _ _
      | exact LeO.none _
      | refine LeO.ite ?_ ?_
      | refine LeO.bind ?_ (fun _ => ?_)
set_option maxHeartbeats 8000000 in
set_option maxRecDepth 100000 in
theorem impl_put_int.calls (k : Nat) (P0_ : Nat → Prop) (u9000_ : Value) (l0 : List Int) (a1 : Int) (a2 : Int) (a3 : Int) (r : List Int) (w0 w : World) (hB : Below w0.heap.size w0 w) (ho0 : Kd.R (Kd.int .u8) 5 w w0.heap.size P0_ u9000_ l0) (h : impl_put_int.f k l0 a1 a2 a3 = some r) :
    Calls Try.prog 53 #[u9000_, .int .i64 a1, .int .i64 a2, .int .i64 a3] w fun e w' => e = .returned (.tuple #[]) ∧ Kd.R (Kd.int .u8) 5 w' w0.heap.size (fun k_ => (P0_ k_ ∨ w.heap.size ≤ k_)) u9000_ r ∧ Below w0.heap.size w0 w' ∧ Kept w w' (fun k_ => P0_ k_) := by
  have HO0 := Aside0.mk (show Kd.R (Kd.int .u8) 5 w w0.heap.size (fun k_ => (P0_ k_ ∨ w.heap.size ≤ k_)) u9000_ l0 from Kd.R_mono ho0 (fun k_ hk => (.inl hk)))
  have HK := Aside0.mk (Kept.refl w (fun k_ => P0_ k_))
  have HW0 := Aside0.mk hB.size
  have HB := Aside0.mk hB
  clear hB
  have H : (impl_put_int.l0 k l0 a1 a3 a2 0) = some r := h
  clear h
  have H' := Aside0.mk H
  clear H
  go_enter Try.func53, Try.ntmps53
  go_wp2
  go_loopg [10] k (fun kq v10 w' => ∃ (x0_1 : List Int) (x10_1 : Int), v10 = .int .i64 x10_1 ∧ Aside0 (impl_put_int.l0 kq x0_1 a1 a3 a2 x10_1 = some r) ∧ Aside0 (kq ≤ k) ∧ Aside0 (Kd.R (Kd.int .u8) 5 w' w0.heap.size (fun k_ => (P0_ k_ ∨ w.heap.size ≤ k_)) u9000_ x0_1) ∧ Aside0 (Kept w w' (fun k_ => P0_ k_)) ∧ Aside0 (Below w0.heap.size w0 w'))
  case atStart => exact ⟨(l0), (0), (by first | rfl | (simp; done) | (simp [*]; done)), H', ⟨Nat.le_refl _⟩, ⟨by (with_reducible repeat (first | apply Kd.R_alloc | apply Kd.R_drewN | apply Kd.R_drew)); exact HO0.out⟩, ⟨by repeat (first | (with_reducible first | exact HK.out | apply Kept.alloc | apply Kept.drewN | apply Kept.drew) | exact HK.out)⟩, ⟨by repeat (first | (with_reducible first | exact HB.out | apply below_alloc | apply pw_below_drewN | apply below_drew1) | exact HB.out)⟩⟩
  case round =>
    clear H'
    try clear p2
    obtain ⟨x0_1, x10_1, rfl, HA, HK1, HO_0, HK, HB⟩ := hrel
    cases gk with
    | zero => exact absurd HA.out (by simp [impl_put_int.l0])
    | succ k1 =>
      have H := HA.out
      clear HA
      simp only [impl_put_int.l0] at H
      by_cases c5 : x10_1 < a2
      · rw [if_pos c5] at H
        have c5b0 : decide (x10_1 < a2) = true := decide_eq_true c5
        clear c5
        obtain ⟨ji6, hji6⟩ : ∃ j_ : Int, (wrap64 (8 * x10_1)) = j_ := ⟨_, rfl⟩
        replace H : (if 0 ≤ (ji6) then (if 0 ≤ (wrap64 (a1 + x10_1)) then (if (wrap64 (a1 + x10_1)) < (x0_1.length : Int) then (impl_put_int.l0 k1 (x0_1.set ((wrap64 (a1 + x10_1)) : Int).toNat ((shr .u64 (IntKind.u64.wrap (a3)) (ji6)) % 256)) a1 a3 a2 (wrap64 (x10_1 + 1))) else (none)) else (none)) else (none)) = some r := by first | (rw [hji6] at H; exact H) | (simp only [hji6] at H ⊢; exact H)
        have hji6w : (IntKind.i64.wrap (8 * x10_1)) = ji6 := (i64_w _).trans hji6
        by_cases c7 : 0 ≤ (ji6)
        · rw [if_pos c7] at H
          have c7b0 := eq_true c7
          have c7b1 : decide (0 ≤ (ji6)) = true := decide_eq_true c7
          clear c7
          obtain ⟨ji8, hji8⟩ : ∃ j_ : Int, (shr .u64 (IntKind.u64.wrap (a3)) (ji6)) = j_ := ⟨_, rfl⟩
          replace H : (if 0 ≤ (wrap64 (a1 + x10_1)) then (if (wrap64 (a1 + x10_1)) < (x0_1.length : Int) then (impl_put_int.l0 k1 (x0_1.set ((wrap64 (a1 + x10_1)) : Int).toNat ((ji8) % 256)) a1 a3 a2 (wrap64 (x10_1 + 1))) else (none)) else (none)) = some r := by first | (rw [hji8] at H; exact H) | (simp only [hji8] at H ⊢; exact H)
          have hji8_ : ((IntKind.u64.wrap (a3)) / 2 ^ min (ji6).toNat 64) = ji8 := hji8
          have hji8z : (ji6) ≤ 64 → ((IntKind.u64.wrap (a3)) / 2 ^ (ji6).toNat) = ji8 := shr_small hji8
          obtain ⟨ji9, hji9⟩ : ∃ j_ : Int, (wrap64 (a1 + x10_1)) = j_ := ⟨_, rfl⟩
          replace H : (if 0 ≤ (ji9) then (if (ji9) < (x0_1.length : Int) then (impl_put_int.l0 k1 (x0_1.set ((ji9) : Int).toNat ((ji8) % 256)) a1 a3 a2 (wrap64 (x10_1 + 1))) else (none)) else (none)) = some r := by first | (rw [hji9] at H; exact H) | (simp only [hji9] at H ⊢; exact H)
          have hji9w : (IntKind.i64.wrap (a1 + x10_1)) = ji9 := (i64_w _).trans hji9
          by_cases c10 : 0 ≤ (ji9)
          · rw [if_pos c10] at H
            have c10b0 : decide (0 ≤ (ji9)) = true := decide_eq_true c10
            clear c10
            by_cases c11 : (ji9) < (x0_1.length : Int)
            · rw [if_pos c11] at H
              have c11b0 : decide ((ji9) < (x0_1.length : Int)) = true := decide_eq_true c11
              clear c11
              obtain ⟨y127, hy127⟩ : ∃ y_ : List Int, y_ = (x0_1.set ((ji9) : Int).toNat ((ji8) % 256)) := ⟨_, rfl⟩
              replace H : (impl_put_int.l0 k1 y127 a1 a3 a2 (wrap64 (x10_1 + 1))) = some r := by first | (rw [hy127]; with_reducible exact H) | (have H2_ := (Option.bind_some _ _).symm.trans H; rw [hy127]; with_reducible exact H2_) | (have H2_ := (Option.bind_some _ _).symm.trans H; with_reducible exact H2_) | with_reducible exact H | (rw [hy127]; exact H) | exact H
              have Ny127 := Aside0.mk hy127
              clear hy127
              have H' := Aside0.mk H
              clear H
              have p12 : 0 ≤ ((ji9) : Int) := of_decide_eq_true (by first | (with_reducible assumption) | assumption)
              have q12 : ((ji9) : Int) < ((x0_1.length : Int) : Int) := of_decide_eq_true (by first | (with_reducible assumption) | assumption)
              obtain ⟨go12, co12, eo12, gb12, gl12, cl12, HG12⟩ := Kd.R_form HO_0.out (by omega)
              (first | cases eo12 | (injection eo12 with ea_ en_ ec_; (first | subst ea_ | (injection ea_ with ea_; subst ea_)); subst ec_; clear en_))
              have GB12 := Aside0.mk gb12
              have GG12 := Aside0.mk HG12
              clear gb12 gl12 HG12
              have HMgo12 := Aside0.mk (show (P0_ go12 ∨ w.heap.size ≤ go12) from (HO_0.out.1 _ rfl))
              obtain ⟨hx12_0, hf12_0⟩ := Kd.R_celln 0 HO_0.out ((ji9) : Int) p12 q12
              replace p12 := eq_true p12
              replace q12 := eq_true q12
              have HP13 := Kd.R_putg HO_0.out ((ji9) : Int) ((ji8) % 256)
              go_wp2_with (first | ((with_reducible refine gate_store (t := 5) (p := 23) rfl ?_); refine store_event (t := 5) (p := 23) (v := ?vo_w14) (w1 := (wr.setCell ⟨go12, ((ji9) : Int).toNat, none⟩ (.int .u8 ((ji8) % 256)))) ?hg ?ho ?hn ?hr ?_; (case ho => rfl); (case hg => rfl); (case hn => rfl); (case hr => first | (go_simp; done) | (go_simp; rfl)); intro w14 hw; have hg : wr.grownBy w14 (some go12) := (by rw [hw]; exact HP13.2); have hp_ : Kd.R (Kd.int .u8) 5 w14 w0.heap.size (fun k_ => (P0_ k_ ∨ w.heap.size ≤ k_)) (.slice (some ⟨go12, 0, none⟩) x0_1.length co12) y127 := (by rw [hw, Ny127.out]; exact HP13.1); clear HP13; have n0_ := Aside0.mk (hp_); have n1_ := Aside0.mk ((by rw [hw]; exact below_set (HB.out) GB12.out : Below w0.heap.size w0 w14)); have n2_ := Aside0.mk (Kept.of_grown (S := (fun k_ => P0_ k_)) hg (by repeat (first | (with_reducible first | exact HK.out | apply Kept.alloc | apply Kept.drewN | apply Kept.drew) | exact HK.out)) (fun k_ e_ => (HO_0.out.1 k_ e_))); clear HO_0; clear HB; clear HK; have HO_0 := n0_; have HB := n1_; have HK := n2_; clear n0_ n1_ n2_; clear hg hw hp_))
              go_roundg k1
              case measure => have := HK1.out; omega
              case rel => exact ⟨(y127), (wrap64 (x10_1 + 1)), (by first | rfl | (simp; done) | (simp [*]; done)), H', ⟨by have := HK1.out; omega⟩, ⟨by (with_reducible repeat (first | apply Kd.R_alloc | apply Kd.R_drewN | apply Kd.R_drew)); exact HO_0.out⟩, ⟨by repeat (first | (with_reducible first | exact HK.out | apply Kept.alloc | apply Kept.drewN | apply Kept.drew) | exact HK.out)⟩, ⟨by repeat (first | (with_reducible first | exact HB.out | apply below_alloc | apply pw_below_drewN | apply below_drew1) | exact HB.out)⟩⟩
            · rw [if_neg c11] at H
              exact absurd H (by simp)
          · rw [if_neg c10] at H
            exact absurd H (by simp)
        · rw [if_neg c7] at H
          exact absurd H (by simp)
      · rw [if_neg c5] at H
        have c5b0 : decide (x10_1 < a2) = false := decide_eq_false c5
        clear c5
        obtain rfl := Option.some.inj H
        go_wp2
        first | go_end0 | ((try simp only [Exit.inBlock, Exit.then]); refine bodyPost_ret (results_none rfl _ _ _) rfl ?_)
        exact ⟨by first | rfl | (simp [errW_none, errW_some] <;> rfl) | (simp [*, errW_none, errW_some] <;> rfl), by (with_reducible repeat (first | apply Kd.R_alloc | apply Kd.R_drewN | apply Kd.R_drew)); exact HO_0.out, by repeat (first | (with_reducible first | exact HB.out | apply below_alloc | apply pw_below_drewN | apply below_drew1) | exact HB.out), by repeat (first | (with_reducible first | exact HK.out | apply Kept.alloc | apply Kept.drewN | apply Kept.drew) | exact HK.out)⟩

end Go.Proofs.Ytkghgjehjchajaa.PFnExactEncodeInode
