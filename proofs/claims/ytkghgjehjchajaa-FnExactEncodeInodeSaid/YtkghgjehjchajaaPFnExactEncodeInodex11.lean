-- Written by a program of this session (patch_print.py over the kit print)
import Derived.Test.YtkghgjehjchajaaPFnExactEncodeInodex0
import Derived.Test.YtkghgjehjchajaaPFnExactEncodeInodex6
import Derived.Test.YtkghgjehjchajaaPFnExactEncodeInodex10
namespace Go.Proofs.Ytkghgjehjchajaa.PFnExactEncodeInode
open Go.RowKit Go.Proofs.YtkghgjehjchajaaW.PrintWords Go.Proofs.YtkghgjehjchajaaW.PrintLast Go.Proofs.YtkghgjehjchajaaW.PrintMore
attribute [local go_sem] max2_int min2_int max_two min_two max_three min_three max_four min_four   -- for this text's walks alone
set_option linter.unusedVariables false
set_option linter.unusedSimpArgs false

open Go.Proofs.YtkghgjehjchajaaW Go.Proofs.YtkghgjehjchajaaW.PrintHand Go.Proofs.YtkghgjehjchajaaW.PrintHx
/-! ### spec_EncodeInode: function 21 -/
open Go.Proofs.YtkghgjehjchajaaW.PrintIno
def spec_EncodeInode.f (a0 : List Int) : Option (List Int × Int) := some (if inodeGood a0 = true then (inodeBytes a0, 0) else ([], 7))
set_option maxHeartbeats 8000000 in
set_option maxRecDepth 100000 in
theorem spec_EncodeInode.calls (a0 : List Int) (n0 : a0.length = 24) (r1 : List Int) (r2 : Int) (w : World) (h : spec_EncodeInode.f a0 = some (r1, r2)) :
    Calls Try.prog 21 #[.agg (nums .i64 a0).toArray] w fun e w' => ∃ v0_ : Value, e = .returned (.tuple #[v0_, .int .i64 r2]) ∧ Kd.R (Kd.int .u8) 5 w' w.heap.size (fun _ => True) v0_ r1 ∧ Below w.heap.size w w' := by
  unfold spec_EncodeInode.f at h
  have N_ := Aside0.mk n0
  clear n0
  have HB0 : Aside0 (Below w.heap.size w w) := ⟨Below.refl _ _⟩
  obtain ⟨s0, Sz0⟩ : ∃ s0, Aside0 (w.heap.size = s0) := ⟨_, ⟨rfl⟩⟩
  have hw0 : w.heap.size ≤ s0 := Nat.le_of_eq Sz0.out
  have hw1 : s0 ≤ w.heap.size := Nat.le_of_eq Sz0.out.symm
  by_cases hgood : inodeGood a0 = true
  · rw [if_pos hgood] at h
    simp only [Option.some.injEq, Prod.mk.injEq] at h
    obtain ⟨rfl, rfl⟩ := h
    have HG := Aside0.mk (show spec_l02Inode.f a0 = some true by rw [← hgood]; rfl)
    have HRB := Aside0.mk (show spec_l02InodeBytes.f a0 = some (inodeBytes a0) from if_pos hgood)
    clear hgood
    go_enter Try.func21, Try.ntmps21
    go_wp2_with (first | ((with_reducible refine gate_dst (N := 1) rfl ?_); refine hx_box rfl 1 rfl 42 (.tmp 0) rfl Sz0 (.agg (nums .i64 a0).toArray) (nums .i64 a0).toArray rfl rfl ?_; intro w1 s1 L1 Sz1 b1 g_; have H0 := Aside0.mk g_; have HB1 := Aside0.mk (below_then HB0.out HB0.out.size b1); clear g_ HB0 b1) | ((with_reducible refine gate_dst (N := 4) rfl ?_); refine hx_load rfl 42 (.tmp 1) rfl s0 24 rfl Try.underlying42 rfl (by kernel_rfl) H0.out (nums_size _ _ _ N_.out) ?_) | ((with_reducible refine gate_dst (N := 5) rfl ?_); refine goesL_ (some 5) rfl rfl Try.func50 (by kernel_rfl) rfl #[.agg (nums .i64 a0).toArray] rfl (by (try simp only [List.map_toArray, List.map_cons, List.map_nil]); first | done | rfl) ?_; refine (spec_l02Inode.calls a0 N_.out true _ HG.out).mono ?_; rintro e_ w2 ⟨rfl, b_⟩; refine ⟨_, rfl, ?_⟩; have HB2 := Aside0.mk (below_then HB1.out HB1.out.size b_); have H2 := Aside0.mk (blk_below H0.out b_); clear b_ HB1 H0) | ((with_reducible refine gate_dst (N := 7) rfl ?_); refine hx_load rfl 42 (.tmp 1) rfl s0 24 rfl Try.underlying42 rfl (by kernel_rfl) H2.out (nums_size _ _ _ N_.out) ?_) | ((with_reducible refine gate_dst (N := 8) rfl ?_); refine goesL_ (some 8) rfl rfl Try.func51 (by kernel_rfl) rfl #[.agg (nums .i64 a0).toArray] rfl (by (try simp only [List.map_toArray, List.map_cons, List.map_nil]); first | done | rfl) ?_; refine (spec_l02InodeBytes.calls a0 N_.out _ _ HRB.out).mono ?_; rintro e_ w3 ⟨v8, rfl, R_, b_⟩; refine ⟨_, rfl, ?_⟩; have O8 := Aside0.mk (Kd.R_lower R_ HB2.out.size); have HB3 := Aside0.mk (below_then HB2.out HB2.out.size b_); clear R_ b_ HB2 H2))
    go_ret2
    exact ⟨_, rfl, O8.out, HB3.out⟩
  · rw [if_neg hgood] at h
    simp only [Option.some.injEq, Prod.mk.injEq] at h
    obtain ⟨rfl, rfl⟩ := h
    have HG := Aside0.mk (show spec_l02Inode.f a0 = some false by rw [show false = inodeGood a0 by simpa using hgood]; rfl)
    clear hgood
    go_enter Try.func21, Try.ntmps21
    go_wp2_with (first | ((with_reducible refine gate_dst (N := 1) rfl ?_); refine hx_box rfl 1 rfl 42 (.tmp 0) rfl Sz0 (.agg (nums .i64 a0).toArray) (nums .i64 a0).toArray rfl rfl ?_; intro w1 s1 L1 Sz1 b1 g_; have H0 := Aside0.mk g_; have HB1 := Aside0.mk (below_then HB0.out HB0.out.size b1); clear g_ HB0 b1) | ((with_reducible refine gate_dst (N := 4) rfl ?_); refine hx_load rfl 42 (.tmp 1) rfl s0 24 rfl Try.underlying42 rfl (by kernel_rfl) H0.out (nums_size _ _ _ N_.out) ?_) | ((with_reducible refine gate_dst (N := 5) rfl ?_); refine goesL_ (some 5) rfl rfl Try.func50 (by kernel_rfl) rfl #[.agg (nums .i64 a0).toArray] rfl (by (try simp only [List.map_toArray, List.map_cons, List.map_nil]); first | done | rfl) ?_; refine (spec_l02Inode.calls a0 N_.out false _ HG.out).mono ?_; rintro e_ w2 ⟨rfl, b_⟩; refine ⟨_, rfl, ?_⟩; have HB2 := Aside0.mk (below_then HB1.out HB1.out.size b_); have H2 := Aside0.mk (blk_below H0.out b_); clear b_ HB1 H0))
    go_ret2
    exact ⟨_, rfl, Kd.R_nil _ _ _ _ _, HB2.out⟩

open Go.Proofs.YtkghgjehjchajaaW Go.Proofs.YtkghgjehjchajaaW.PrintHand Go.Proofs.YtkghgjehjchajaaW.PrintHx
/-! ### laws_toIntA12: function 43 -/
def laws_toIntA12.f (a0 : List Int) : Option (List Int) := if a0.length = 12 then some a0 else none
set_option maxHeartbeats 4000000 in
set_option maxRecDepth 100000 in
theorem laws_toIntA12.calls (a0 : List Int) (n0 : a0.length = 12) (r : List Int) (w : World) (h : laws_toIntA12.f a0 = some r) :
    Calls Try.prog 43 #[.agg (nums .i64 a0).toArray] w fun e w' => e = .returned (.agg (nums .i64 r).toArray) ∧ Below w.heap.size w w' := by
  unfold laws_toIntA12.f at h
  rw [if_pos n0] at h
  obtain rfl := Option.some.inj h
  have N_ := Aside0.mk n0
  clear n0 h
  have Z_ : ∀ w, (zeroValue 22).run Try.prog w = .ok (.agg (nums .i64 (List.replicate 12 0)).toArray) w := fun _ => by kernel_rfl
  have HB0 : Aside0 (Below w.heap.size w w) := ⟨Below.refl _ _⟩
  obtain ⟨s0, Sz0⟩ : ∃ s0, Aside0 (w.heap.size = s0) := ⟨_, ⟨rfl⟩⟩
  have hw0 : w.heap.size ≤ s0 := Nat.le_of_eq Sz0.out
  have hu22 := Try.underlying22
  go_enter Try.func43, Try.ntmps43
  go_wp2_with (first | ((with_reducible refine gate_dst (N := 1) rfl ?_); refine hx_box rfl 1 rfl 22 (.tmp 0) rfl Sz0 (.agg (nums .i64 a0).toArray) (nums .i64 a0).toArray rfl rfl ?_; intro w1 s1 L1 Sz1 b1 g_; have H0 := Aside0.mk g_; have HB1 := Aside0.mk (below_then HB0.out HB0.out.size b1); clear g_ HB0 b1) | ((with_reducible refine gate_dst (N := 2) rfl ?_); refine hx_alloc rfl 2 rfl 22 rfl Sz1 (.agg (nums .i64 (List.replicate 12 0)).toArray) (nums .i64 (List.replicate 12 0)).toArray Z_ rfl ?_; intro w2 s2 L2 Sz2 b2 g_; have H1 := Aside0.mk g_; have H0 := Aside0.mk (blk_below H0.out b2); have HB2 := Aside0.mk (below_then HB1.out HB1.out.size b2); clear g_ HB1 b2) | ((with_reducible refine gate_dst (N := 3) rfl ?_); refine hx_alloc rfl 3 rfl 22 rfl Sz2 (.agg (nums .i64 (List.replicate 12 0)).toArray) (nums .i64 (List.replicate 12 0)).toArray Z_ rfl ?_; intro w3 s3 L3 Sz3 b3 g_; have H2 := Aside0.mk g_; have H0 := Aside0.mk (blk_below H0.out b3); have H1 := Aside0.mk (blk_below H1.out b3); have HB3 := Aside0.mk (below_then HB2.out HB2.out.size b3); clear g_ HB2 b3))
  (try simp only [Act.put, List.setIfInBounds_toArray, List.set_cons_succ, List.set_cons_zero])
  go_loopw [4] (fun i wr => ∃ k : Nat, k ≤ 12 ∧ i = .int .i64 (k : Int) ∧ Aside0 (Below w.heap.size w wr) ∧ Aside0 (wr.heap[s0]? = some (.cells (nums .i64 a0).toArray 22 (0, 0))) ∧ Aside0 (wr.heap[s1]? = some (.cells (nums .i64 (List.replicate 12 0)).toArray 22 (0, 0))) ∧ Aside0 (wr.heap[s2]? = some (.cells (nums .i64 (a0.take k ++ List.replicate (12 - k) 0)).toArray 22 (0, 0)))) (fun i _ => 12 - (intOf i).toNat)
  case atStart => exact ⟨0, by omega, rfl, HB3, H0, H1, H2⟩
  case round =>
    clear HB3 H0 H1 H2
    obtain ⟨k, hk, rfl, hB, h0, h1, h2⟩ := hrel
    by_cases hlt : k < 12
    · have c0 := row_cell h0.out k (by rw [N_.out]; exact hlt)
      have c2 := row_cell h2.out k (by rw [List.length_append, List.length_take, List.length_replicate, N_.out]; omega)
      have f2 := row_frozen h2.out k
      obtain ⟨y, hy⟩ : ∃ y, y = (a0.take k ++ List.replicate (12 - k) 0).getD k 0 := ⟨_, rfl⟩
      obtain ⟨x, hx⟩ : ∃ x, x = a0.getD k 0 := ⟨_, rfl⟩
      rw [← hy] at c2
      rw [← hx] at c0
      have HX := Aside0.mk hx
      clear hx hy
      go_wp2
      go_roundw
      case rel =>
        refine ⟨k + 1, by omega, by go_num, ⟨hB.out.setCell (show w.heap.size ≤ s2 by omega) _⟩, ⟨row_other h0.out (by omega) _ _⟩, ⟨row_other h1.out (by omega) _ _⟩, ⟨?_⟩⟩
        have h := row_set h2.out k (a0.getD k 0)
        have e : (a0.take k ++ List.replicate (12 - k) 0).set k (a0.getD k 0) = a0.take (k + 1) ++ List.replicate (12 - (k + 1)) 0 := by
          have hl : k < a0.length := by rw [N_.out]; exact hlt
          have ht : (a0.take k).length = k := by rw [List.length_take]; omega
          rw [List.set_append_right _ _ (by omega), ht, Nat.sub_self, show 12 - k = (12 - (k + 1)) + 1 by omega, List.replicate_succ, List.set_cons_zero, List.take_succ_eq_append_getElem hl, List.append_assoc, List.getD_eq_getElem?_getD, List.getElem?_eq_getElem hl]
          rfl
        rw [e, List.getD_eq_getElem?_getD, List.getElem?_eq_getElem (show k < a0.length by rw [N_.out]; exact hlt)] at h
        have hx := HX.out
        rw [List.getD_eq_getElem?_getD, List.getElem?_eq_getElem (show k < a0.length by rw [N_.out]; exact hlt)] at hx
        rw [hx]
        exact h
      case measure => simp [intOf]; omega
    · obtain rfl : k = 12 := by omega
      have e2 : a0.take 12 ++ List.replicate (12 - 12) 0 = a0 := by
        rw [List.take_of_length_le (by rw [N_.out]; exact Nat.le_refl _)]
        simp
      have h3 := h2.out
      rw [e2] at h3
      have H3 := Aside0.mk h3
      clear h2 e2 h3
      go_wp2_with (first | ((with_reducible refine gate_dst (N := 14) rfl ?_); refine hx_load rfl 22 (.tmp 3) rfl s2 12 rfl Try.underlying22 rfl (by kernel_rfl) H3.out (nums_size _ _ _ N_.out) ?_) | ((with_reducible refine gate_store (t := 22) (p := 2) (v := .tmp 14) rfl ?_); refine hx_store rfl rfl 22 (.tmp 2) (.tmp 14) rfl s1 12 rfl (nums .i64 a0).toArray rfl (by kernel_rfl) (nums_size _ _ _ N_.out) (nums_one _ _) h1.out (nums_size _ _ _ (by simp)) ?_; intro w4 t4 g4))
      refine bodyPost_ret (results_cell_row rfl _ _ s1 22 _ (0, 0) _ rfl g4 Try.underlying22 rfl (by rw [nums_size _ _ _ N_.out]; kernel_rfl)) rfl ⟨rfl, ?_⟩
      exact t4.below hB.out (by omega)

open Go.Proofs.YtkghgjehjchajaaW Go.Proofs.YtkghgjehjchajaaW.PrintHand Go.Proofs.YtkghgjehjchajaaW.PrintHx
/-! ### laws_toRoot: function 12 -/
def laws_toRoot.f (a0 : List Int) : Option (List Int) := if a0.length = 15 then some a0 else none
theorem laws_toRoot.same (a0 : List Int) (h : a0.length = 15) (M4 M6 M7 M8 : List Int) (q4 : M4 = (List.replicate 15 0).set 0 (a0.getD 0 0)) (q6 : M6 = M4.take 1 ++ (seg a0 1 12) ++ M4.drop (1 + 12)) (q7 : M7 = M6.set 13 (a0.getD 13 0)) (q8 : M8 = M7.set 14 (a0.getD 14 0)) : M8 = a0 := by
  subst q4
  subst q6
  subst q7
  subst q8
  obtain ⟨x0, a1, rfl, h0⟩ := cons_of_len h
  obtain ⟨x1, a2, rfl, h1⟩ := cons_of_len h0
  obtain ⟨x2, a3, rfl, h2⟩ := cons_of_len h1
  obtain ⟨x3, a4, rfl, h3⟩ := cons_of_len h2
  obtain ⟨x4, a5, rfl, h4⟩ := cons_of_len h3
  obtain ⟨x5, a6, rfl, h5⟩ := cons_of_len h4
  obtain ⟨x6, a7, rfl, h6⟩ := cons_of_len h5
  obtain ⟨x7, a8, rfl, h7⟩ := cons_of_len h6
  obtain ⟨x8, a9, rfl, h8⟩ := cons_of_len h7
  obtain ⟨x9, a10, rfl, h9⟩ := cons_of_len h8
  obtain ⟨x10, a11, rfl, h10⟩ := cons_of_len h9
  obtain ⟨x11, a12, rfl, h11⟩ := cons_of_len h10
  obtain ⟨x12, a13, rfl, h12⟩ := cons_of_len h11
  obtain ⟨x13, a14, rfl, h13⟩ := cons_of_len h12
  obtain ⟨x14, a15, rfl, h14⟩ := cons_of_len h13
  obtain rfl := List.length_eq_zero_iff.mp h14
  rfl
set_option maxHeartbeats 8000000 in
set_option maxRecDepth 100000 in
theorem laws_toRoot.calls (a0 : List Int) (n0 : a0.length = 15) (r : List Int) (w : World) (h : laws_toRoot.f a0 = some r) :
    Calls Try.prog 12 #[.agg (nums .i64 a0).toArray] w fun e w' => e = .returned (.agg (nums .i64 r).toArray) ∧ Below w.heap.size w w' := by
  unfold laws_toRoot.f at h
  rw [if_pos n0] at h
  obtain rfl := Option.some.inj h
  have N_ := Aside0.mk n0
  clear n0 h
  have HB0 : Aside0 (Below w.heap.size w w) := ⟨Below.refl _ _⟩
  obtain ⟨s0, Sz0⟩ : ∃ s0, Aside0 (w.heap.size = s0) := ⟨_, ⟨rfl⟩⟩
  have hw0 : w.heap.size ≤ s0 := Nat.le_of_eq Sz0.out
  have hw1 : s0 ≤ w.heap.size := Nat.le_of_eq Sz0.out.symm
  have Z28 : ∀ w, (zeroValue 28).run Try.prog w = .ok (.agg (nums .i64 (List.replicate 15 0)).toArray) w := fun _ => by kernel_rfl
  go_enter Try.func12, Try.ntmps12
  go_wp2_with (first | ((with_reducible refine gate_dst (N := 1) rfl ?_); refine hx_box rfl 1 rfl 24 (.tmp 0) rfl Sz0 (.agg (nums .i64 a0).toArray) (nums .i64 a0).toArray rfl rfl ?_; intro w1 s1 L1 Sz1 b1 g_; have H1_1 := Aside0.mk g_; clear g_; have K0 := kept_below b1; have HB1 := Aside0.mk (below_then HB0.out HB0.out.size b1); clear b1; clear K0 HB0) | ((with_reducible refine gate_dst (N := 2) rfl ?_); refine hx_alloc rfl 2 rfl 28 rfl Sz1 (.agg (nums .i64 (List.replicate 15 0)).toArray) (nums .i64 (List.replicate 15 0)).toArray Z28 rfl ?_; intro w2 s2 L2 Sz2 b2 g_; have H2_2 := Aside0.mk g_; clear g_; have K1 := kept_below b2; have HB2 := Aside0.mk (below_then HB1.out HB1.out.size b2); have H1_2 := Aside0.mk (blk_kept H1_1.out K1 (fun h_ => h_)); clear b2; clear K1 HB1 H1_1) | ((with_reducible refine gate_dst (N := 3) rfl ?_); refine hx_alloc rfl 3 rfl 28 rfl Sz2 (.agg (nums .i64 (List.replicate 15 0)).toArray) (nums .i64 (List.replicate 15 0)).toArray Z28 rfl ?_; intro w3 s3 L3 Sz3 b3 g_; have H3_3 := Aside0.mk g_; clear g_; have K2 := kept_below b3; have HB3 := Aside0.mk (below_then HB2.out HB2.out.size b3); have H1_3 := Aside0.mk (blk_kept H1_2.out K2 (fun h_ => h_)); have H2_3 := Aside0.mk (blk_kept H2_2.out K2 (fun h_ => h_)); clear b3; clear K2 HB2 H1_2 H2_2) | ((with_reducible refine gate_dst (N := 5) rfl ?_); refine hx_loadf rfl 3 (.tmp 4) rfl s0 0 rfl Try.underlying3 rfl H1_3.out (lt_len (n := 15) N_.out (by decide)) ?_) | ((with_reducible refine gate_store (t := 3) (p := 6) (v := .tmp 5) rfl ?_); refine hx_storef rfl rfl 3 (.tmp 6) (.tmp 5) rfl s2 0 rfl (a0.getD 0 0) rfl (by kernel_rfl) H3_3.out (lt_len (n := 15) (by simp) (by decide)) ?_; intro w4 M4 t4 Q4 l_ g4; have N4 : Aside0 (M4.length = 15) := ⟨l_.out.trans (by simp)⟩; clear l_; have K3 := kept_touch t4; have HB4 := Aside0.mk (t4.below HB3.out (by omega)); have H1_4 := Aside0.mk (blk_kept H1_3.out K3 (by show ¬ (_ = _); omega)); have H2_4 := Aside0.mk (blk_kept H2_3.out K3 (by show ¬ (_ = _); omega)); have H3_4 := Aside0.mk g4; have Sz4 := Aside0.mk (t4.size.trans Sz3.out); clear t4 g4; clear K3 HB3 H1_3 H2_3 H3_3) | ((with_reducible refine gate_dst (N := 8) rfl ?_); refine hx_loadp rfl 22 (.tmp 7) rfl s0 1 12 rfl Try.underlying22 rfl (by kernel_rfl) H1_4.out (le_len (n := 15) N_.out (by decide)) ?_) | ((with_reducible refine gate_dst (N := 9) rfl ?_); refine goesL_ (some 9) rfl rfl Try.func43 (by kernel_rfl) rfl #[.agg (nums .i64 (seg a0 1 12)).toArray] rfl (by (try simp only [List.map_toArray, List.map_cons, List.map_nil]); first | done | rfl) ?_; refine (laws_toIntA12.calls _ (part_len (n := 15) N_.out (by decide)) _ _ (if_pos (part_len (n := 15) N_.out (by decide)))).mono ?_; rintro e_ w5 ⟨rfl, b5⟩; refine ⟨_, rfl, ?_⟩; obtain ⟨s5, L5, Sz5⟩ := size_letter Sz4 (kept_below b5); have K4 := kept_below b5; have HB5 := Aside0.mk (below_then HB4.out HB4.out.size b5); have H1_5 := Aside0.mk (blk_kept H1_4.out K4 (fun h_ => h_)); have H2_5 := Aside0.mk (blk_kept H2_4.out K4 (fun h_ => h_)); have H3_5 := Aside0.mk (blk_kept H3_4.out K4 (fun h_ => h_)); clear b5; clear K4 HB4 H1_4 H2_4 H3_4) | ((with_reducible refine gate_store (t := 22) (p := 10) (v := .tmp 9) rfl ?_); refine hx_storep rfl rfl 22 (.tmp 10) (.tmp 9) rfl s2 1 12 rfl (seg a0 1 12) rfl (by kernel_rfl) (part_len (n := 15) N_.out (by decide)) H3_5.out (le_len (n := 15) N4.out (by decide)) ?_; intro w6 M6 t6 Q6 l_ g6; have N6 : Aside0 (M6.length = 15) := ⟨l_.out.trans N4.out⟩; clear l_; have K5 := kept_touch t6; have HB6 := Aside0.mk (t6.below HB5.out (by omega)); have H1_6 := Aside0.mk (blk_kept H1_5.out K5 (by show ¬ (_ = _); omega)); have H2_6 := Aside0.mk (blk_kept H2_5.out K5 (by show ¬ (_ = _); omega)); have H3_6 := Aside0.mk g6; have Sz6 := Aside0.mk (t6.size.trans Sz5.out); clear t6 g6; clear K5 HB5 H1_5 H2_5 H3_5) | ((with_reducible refine gate_dst (N := 12) rfl ?_); refine hx_loadf rfl 3 (.tmp 11) rfl s0 13 rfl Try.underlying3 rfl H1_6.out (lt_len (n := 15) N_.out (by decide)) ?_) | ((with_reducible refine gate_store (t := 3) (p := 13) (v := .tmp 12) rfl ?_); refine hx_storef rfl rfl 3 (.tmp 13) (.tmp 12) rfl s2 13 rfl (a0.getD 13 0) rfl (by kernel_rfl) H3_6.out (lt_len (n := 15) N6.out (by decide)) ?_; intro w7 M7 t7 Q7 l_ g7; have N7 : Aside0 (M7.length = 15) := ⟨l_.out.trans N6.out⟩; clear l_; have K6 := kept_touch t7; have HB7 := Aside0.mk (t7.below HB6.out (by omega)); have H1_7 := Aside0.mk (blk_kept H1_6.out K6 (by show ¬ (_ = _); omega)); have H2_7 := Aside0.mk (blk_kept H2_6.out K6 (by show ¬ (_ = _); omega)); have H3_7 := Aside0.mk g7; have Sz7 := Aside0.mk (t7.size.trans Sz6.out); clear t7 g7; clear K6 HB6 H1_6 H2_6 H3_6) | ((with_reducible refine gate_dst (N := 15) rfl ?_); refine hx_loadf rfl 3 (.tmp 14) rfl s0 14 rfl Try.underlying3 rfl H1_7.out (lt_len (n := 15) N_.out (by decide)) ?_) | ((with_reducible refine gate_store (t := 3) (p := 16) (v := .tmp 15) rfl ?_); refine hx_storef rfl rfl 3 (.tmp 16) (.tmp 15) rfl s2 14 rfl (a0.getD 14 0) rfl (by kernel_rfl) H3_7.out (lt_len (n := 15) N7.out (by decide)) ?_; intro w8 M8 t8 Q8 l_ g8; have N8 : Aside0 (M8.length = 15) := ⟨l_.out.trans N7.out⟩; clear l_; have K7 := kept_touch t8; have HB8 := Aside0.mk (t8.below HB7.out (by omega)); have H1_8 := Aside0.mk (blk_kept H1_7.out K7 (by show ¬ (_ = _); omega)); have H2_8 := Aside0.mk (blk_kept H2_7.out K7 (by show ¬ (_ = _); omega)); have H3_8 := Aside0.mk g8; have Sz8 := Aside0.mk (t8.size.trans Sz7.out); clear t8 g8; clear K7 HB7 H1_7 H2_7 H3_7) | ((with_reducible refine gate_dst (N := 17) rfl ?_); refine hx_load rfl 28 (.tmp 3) rfl s2 15 rfl Try.underlying28 rfl (by kernel_rfl) H3_8.out (nums_size _ _ _ N8.out) ?_) | ((with_reducible refine gate_store (t := 28) (p := 2) (v := .tmp 17) rfl ?_); refine hx_store rfl rfl 28 (.tmp 2) (.tmp 17) rfl s1 15 rfl (nums .i64 M8).toArray rfl (by kernel_rfl) (nums_size _ _ _ N8.out) (nums_one _ _) H2_8.out (nums_size _ _ _ (by simp)) ?_; intro w9 t9 g9; have K8 := kept_touch t9; have HB9 := Aside0.mk (t9.below HB8.out (by omega)); have H1_9 := Aside0.mk (blk_kept H1_8.out K8 (by show ¬ (_ = _); omega)); have H2_9 := Aside0.mk g9; have H3_9 := Aside0.mk (blk_kept H3_8.out K8 (by show ¬ (_ = _); omega)); have Sz9 := Aside0.mk (t9.size.trans Sz8.out); clear t9 g9; clear K8 HB8 H1_8 H2_8 H3_8))
  have e_ := laws_toRoot.same a0 N_.out _ _ _ _ Q4.out Q6.out Q7.out Q8.out
  have HF := H2_9.out
  rw [e_] at HF
  exact bodyPost_ret (results_cell_row rfl _ _ s1 28 _ (0, 0) _ rfl HF Try.underlying28 rfl (by rw [nums_size _ _ _ N_.out]; kernel_rfl)) rfl ⟨rfl, HB9.out⟩

end Go.Proofs.Ytkghgjehjchajaa.PFnExactEncodeInode
