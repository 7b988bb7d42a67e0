-- Written by a program of this session (patch_print.py over the kit print)
import Derived.Test.YtkghgjehjchajaaPFnExactLowestInodex0
import Derived.Test.YtkghgjehjchajaaPFnExactLowestInodex1
namespace Go.Proofs.Ytkghgjehjchajaa.PFnExactLowestInode
open Go.RowKit Go.Proofs.YtkghgjehjchajaaW.PrintWords Go.Proofs.YtkghgjehjchajaaW.PrintLast Go.Proofs.YtkghgjehjchajaaW.PrintMore
attribute [local go_sem] max2_int min2_int max_two min_two max_three min_three max_four min_four   -- for this text's walks alone
set_option linter.unusedVariables false
set_option linter.unusedSimpArgs false

open Go.Proofs.YtkghgjehjchajaaW Go.Proofs.YtkghgjehjchajaaW.PrintHand Go.Proofs.YtkghgjehjchajaaW.PrintHx
/-! ### laws_toInodeS: function 29 -/
def laws_toInodeS.f (l0 : List (List Int)) : Option (List (List Int)) := if l0.length ≤ 1466015503701 then some l0 else none
set_option maxHeartbeats 8000000 in
set_option maxRecDepth 100000 in
theorem laws_toInodeS.calls (A0 : Option Addr) (c0 : Nat) (l0 : List (List Int)) (r : List (List Int)) (w : World) (hr0 : Kd.C (PrintHx.wide 24) w A0 l0.length l0) (hc0 : l0.length ≤ c0) (h : laws_toInodeS.f l0 = some r) :
    Calls Try.prog 29 #[.slice A0 l0.length c0] w fun e w' => ∃ v0_ : Value, e = .returned (v0_) ∧ Kd.R (PrintHx.wide 24) 42 w' w.heap.size (fun _ => True) v0_ r ∧ Below w.heap.size w w' := by
  unfold laws_toInodeS.f at h
  by_cases c : l0.length ≤ 1466015503701
  case neg => rw [if_neg c] at h; cases h
  rw [if_pos c] at h
  obtain rfl := Option.some.inj h
  have HR0 := Aside0.mk hr0
  have HC0 := Aside0.mk hc0
  have CL := Aside0.mk c
  clear hr0 hc0 h c
  have c2b1 : decide (0 ≤ (l0.length : Int)) = true := decide_eq_true (by omega)
  have hi_ : (Try.prog.info? 42).map (fun i => (i.zero, i.size, i.bytes)) = some (some (.agg (nums .i64 (List.replicate 24 0)).toArray), 24, 192) := by kernel_rfl
  have hu42 := Try.underlying42
  go_enter Try.func29, Try.ntmps29
  go_wp2_with (first | ((with_reducible refine gate_dst (N := 7) rfl ?_); refine Kd.R_make (PrintHx.wide 24) (w0 := w) w.heap.size 42 rfl (N := 7) rfl 51 _ _ rfl (l0.length : Int) rfl rfl Try.underlying51 (.agg (nums .i64 (List.replicate 24 0)).toArray) 192 hi_ rfl (by decide) (by omega) (List.replicate 24 0) (ok := fun _ => True) (okp := fun _ => True) (wide_zero _ _ _) (fun _ hk => hk) trivial (by omega) (by have := CL.out; rw [Int.toNat_natCast]; omega) (Below.refl _ _) (Nat.le_refl _) ?_; intro v7 w1 ho hb hg_ hnew_; clear hg_ hnew_; rw [Int.toNat_natCast] at ho; have HO := Aside0.mk ho; have HB := Aside0.mk hb; clear ho hb))
  (try simp only [Act.put, List.setIfInBounds_toArray, List.set_cons_succ, List.set_cons_zero])
  go_loopw [4] (fun v4 wr => ∃ j : Nat, v4 = .int .i64 (j : Int) ∧ Aside0 (j ≤ l0.length) ∧ Aside0 (Kd.R (PrintHx.wide 24) 42 wr w.heap.size (fun _ => True) v7 (l0.take j ++ List.replicate (l0.length - j) (List.replicate 24 0))) ∧ Aside0 (Below w.heap.size w wr)) (fun v4 _ => l0.length - (intOf v4).toNat)
  case atStart => exact ⟨0, rfl, ⟨Nat.zero_le _⟩, HO, HB⟩
  case round =>
    clear HO HB
    obtain ⟨j, rfl, hj, HO, HB⟩ := hrel
    by_cases c9 : j < l0.length
    · have c9b0 : decide ((j : Int) < (l0.length : Int)) = true := decide_eq_true (by omega)
      have c9b1 : decide (j < l0.length) = true := decide_eq_true c9
      obtain ⟨ad, ea, hl, hc⟩ := wide_at (Kd.C_below HR0.out HB.out) j c9
      subst ea
      obtain ⟨x, hx⟩ : ∃ x, x = l0.getD j [] := ⟨_, rfl⟩
      rw [← hx] at hl hc
      have HX := Aside0.mk hx
      have HL := Aside0.mk hl
      have HC := Aside0.mk hc
      clear hx hl hc
      obtain ⟨ys, hys⟩ : ∃ ys, ys = l0.take j ++ List.replicate (l0.length - j) (List.replicate 24 0) := ⟨_, rfl⟩
      have HO2 := HO.out
      rw [← hys] at HO2
      have hyl : ys.length = l0.length := by rw [hys, List.length_append, List.length_take, List.length_replicate]; omega
      obtain ⟨g, cap, ev, hbg, hlt_, cells, hce⟩ := Kd.R_form HO2 (by omega)
      subst ev
      have HY := Aside0.mk hys
      have HYL := Aside0.mk hyl
      have HO3 := Aside0.mk HO2
      clear hys HO HO2 hbg hlt_ hce
      have q1 : ((j : Int) < (ys.length : Int)) = True := eq_true (by omega)
      have q2 : (j < ys.length) = True := eq_true (by omega)
      have q3 : ((j : Int) < (l0.length : Int)) = True := eq_true (by omega)
      have q4 : (0 ≤ (j : Int)) = True := eq_true (by omega)
      have q5 : (j < l0.length) = True := eq_true c9
      have C9 := Aside0.mk c9
      clear hyl c9
      go_wp2_with (first | ((with_reducible refine gate_dst (N := 19) rfl ?_); refine hx_load_at rfl 39 (.tmp 18) rfl (ad.add (j * 24)) rfl x 24 Try.underlying39 rfl (by kernel_rfl) HL.out (fun i hi => by rw [Addr.add_add]; exact HC.out i hi) ?_) | ((with_reducible refine gate_dst (N := 20) rfl ?_); refine goesL_ (some 20) rfl rfl Try.func22 (by kernel_rfl) rfl #[.agg (nums .i64 x).toArray] rfl (by (try simp only [List.map_toArray, List.map_cons, List.map_nil]); first | done | rfl) ?_; refine (laws_toInode.calls _ HL.out _ _ (if_pos HL.out)).mono ?_; rintro e_ w2 ⟨rfl, b2⟩; refine ⟨_, rfl, ?_⟩; have HO4 := Aside0.mk (Kd.R_below HO3.out b2); have HB4 := Aside0.mk (below_then HB.out HB.out.size b2); clear b2 HO3 HB) | ((with_reducible refine gate_store (t := 42) (p := 21) (v := .tmp 20) rfl ?_); refine hx_put (w0 := w) w.heap.size rfl rfl 42 (.tmp 21) (.tmp 20) rfl 42 j ys x (fun _ => True) rfl (by first | rfl | simp) rfl (by kernel_rfl) HL.out HO4.out (of_eq_true q2) HB4.out ?_; intro w3 ho3 hb3 hg3; have HO5 := Aside0.mk ho3; have HB5 := Aside0.mk hb3; clear ho3 hb3 hg3 HO4 HB4))
      go_roundw
      case rel =>
        refine ⟨j + 1, by rw [show wrap64 ((j : Int) + 1) = ((j + 1 : Nat) : Int) by (have := CL.out; have := C9.out; unfold wrap64; omega)], ⟨by have := C9.out; omega⟩, ⟨?_⟩, HB5⟩
        have h := HO5.out
        have e : ys.set j x = l0.take (j + 1) ++ List.replicate (l0.length - (j + 1)) (List.replicate 24 0) := by
          have hj2 := C9.out
          have hx := HX.out
          rw [List.getD_eq_getElem?_getD, List.getElem?_eq_getElem hj2, Option.getD_some] at hx
          have ht : (l0.take j).length = j := by rw [List.length_take]; omega
          rw [HY.out, List.set_append_right _ _ (by omega), ht, Nat.sub_self, show l0.length - j = (l0.length - (j + 1)) + 1 by omega, List.replicate_succ, List.set_cons_zero, List.take_succ_eq_append_getElem hj2, List.append_assoc, hx]
          rfl
        have e2 : ys.length = (l0.take (j + 1) ++ List.replicate (l0.length - (j + 1)) (List.replicate 24 0)).length := by rw [← e, List.length_set]
        rw [e] at h
        exact h
      case measure =>
        rw [show wrap64 ((j : Int) + 1) = ((j + 1 : Nat) : Int) by (have := CL.out; have := C9.out; unfold wrap64; omega)]
        simp only [intOf, Int.toNat_natCast]
        have := C9.out
        omega
    · have c9b0 : decide ((j : Int) < (l0.length : Int)) = false := decide_eq_false (by omega)
      have c9b1 : decide (j < l0.length) = false := decide_eq_false c9
      have e : l0.take j ++ List.replicate (l0.length - j) (List.replicate 24 0) = l0 := by
        rw [List.take_of_length_le (by omega), show l0.length - j = 0 by omega]
        simp
      have h := HO.out
      rw [e] at h
      have HF := Aside0.mk h
      clear h e HO c9
      go_wp2
      go_ret
      exact ⟨_, rfl, HF.out, HB.out⟩

open Go.Proofs.YtkghgjehjchajaaW Go.Proofs.YtkghgjehjchajaaW.PrintHand Go.Proofs.YtkghgjehjchajaaW.PrintHx
/-! ### laws_eqIntA12: function 49 -/
def laws_eqIntA12.f (a0 a1 : List Int) : Option Bool := if a0 = a1 then some true else none
set_option maxHeartbeats 4000000 in
theorem laws_eqIntA12.calls (a0 : List Int) (n0 : a0.length = 12) (a1 : List Int) (n1 : a1.length = 12) (r : Bool) (w : World) (h : laws_eqIntA12.f a0 a1 = some r) :
    Calls Try.prog 49 #[.agg (nums .i64 a0).toArray, .agg (nums .i64 a1).toArray] w fun e w' => e = .returned (.bool r) ∧ Below w.heap.size w w' := by
  unfold laws_eqIntA12.f at h
  by_cases he : a0 = a1
  case neg => rw [if_neg he] at h; cases h
  rw [if_pos he] at h
  obtain rfl := Option.some.inj h
  subst he
  have N_ := Aside0.mk n0
  clear n0 n1 h
  have HB0 : Aside0 (Below w.heap.size w w) := ⟨Below.refl _ _⟩
  obtain ⟨s0, Sz0⟩ : ∃ s0, Aside0 (w.heap.size = s0) := ⟨_, ⟨rfl⟩⟩
  go_enter Try.func49, Try.ntmps49
  go_wp2_with (first | ((with_reducible refine gate_dst (N := 2) rfl ?_); refine hx_box rfl 2 rfl 22 (.tmp 0) rfl Sz0 (.agg (nums .i64 a0).toArray) (nums .i64 a0).toArray rfl rfl ?_; intro w1 s1 L1 Sz1 b1 g_; have H0 := Aside0.mk g_; have HB1 := Aside0.mk (below_then HB0.out HB0.out.size b1); clear g_ HB0 b1) | ((with_reducible refine gate_dst (N := 3) rfl ?_); refine hx_box rfl 3 rfl 22 (.tmp 1) rfl Sz1 (.agg (nums .i64 a0).toArray) (nums .i64 a0).toArray rfl rfl ?_; intro w2 s2 L2 Sz2 b2 g_; have H1 := Aside0.mk g_; have H0 := Aside0.mk (blk_below H0.out b2); have HB2 := Aside0.mk (below_then HB1.out HB1.out.size b2); clear g_ HB1 b2))
  (try simp only [Act.put, List.setIfInBounds_toArray, List.set_cons_succ, List.set_cons_zero])
  go_loopw [5] (fun i wr => ∃ k : Nat, k ≤ 12 ∧ i = .int .i64 (k : Int) ∧ Aside0 (Below w.heap.size w wr) ∧ Aside0 (wr.heap[s0]? = some (.cells (nums .i64 a0).toArray 22 (0, 0))) ∧ Aside0 (wr.heap[s1]? = some (.cells (nums .i64 a0).toArray 22 (0, 0)))) (fun i _ => 12 - (intOf i).toNat)
  case atStart => exact ⟨0, by omega, rfl, HB2, H0, H1⟩
  case round =>
    obtain ⟨k, hk, rfl, hB, h0, h1⟩ := hrel
    by_cases hlt : k < 12
    · have c0 := row_cell h0.out k (by rw [N_.out]; exact hlt)
      have c1 := row_cell h1.out k (by rw [N_.out]; exact hlt)
      have hn : (a0.getD k 0 != a0.getD k 0) = false := by simp
      go_wp2
      go_quiet (fail)
      go_wp2
      go_roundw
      case rel => exact ⟨k + 1, by omega, by go_num, ⟨pw_below_drewN hB.out _⟩, ⟨blk_drewN h0.out _⟩, ⟨blk_drewN h1.out _⟩⟩
      case measure => simp [intOf]; omega
    · obtain rfl : k = 12 := by omega
      go_wp2
      go_ret
      exact ⟨rfl, hB.out⟩

open Go.Proofs.YtkghgjehjchajaaW Go.Proofs.YtkghgjehjchajaaW.PrintHand Go.Proofs.YtkghgjehjchajaaW.PrintHx
/-! ### laws_eqRoot: function 20 -/
def laws_eqRoot.f (a0 a1 : List Int) : Option Bool := if a0 = a1 then some true else none
set_option maxHeartbeats 8000000 in
set_option maxRecDepth 100000 in
theorem laws_eqRoot.calls (a0 : List Int) (n0 : a0.length = 15) (a1 : List Int) (n1 : a1.length = 15) (r : Bool) (w : World) (h : laws_eqRoot.f a0 a1 = some r) :
    Calls Try.prog 20 #[.agg (nums .i64 a0).toArray, .agg (nums .i64 a1).toArray] w fun e w' => e = .returned (.bool r) ∧ Below w.heap.size w w' := by
  unfold laws_eqRoot.f at h
  by_cases he : a0 = a1
  case neg => rw [if_neg he] at h; cases h
  rw [if_pos he] at h
  obtain rfl := Option.some.inj h
  subst he
  have N_ := Aside0.mk n0
  clear n0 n1 h
  have HB0 : Aside0 (Below w.heap.size w w) := ⟨Below.refl _ _⟩
  obtain ⟨s0, Sz0⟩ : ∃ s0, Aside0 (w.heap.size = s0) := ⟨_, ⟨rfl⟩⟩
  have hw0 : w.heap.size ≤ s0 := Nat.le_of_eq Sz0.out
  have hw1 : s0 ≤ w.heap.size := Nat.le_of_eq Sz0.out.symm
  go_enter Try.func20, Try.ntmps20
  go_wp2_with (first | ((with_reducible refine gate_dst (N := 2) rfl ?_); refine hx_box rfl 2 rfl 28 (.tmp 0) rfl Sz0 (.agg (nums .i64 a0).toArray) (nums .i64 a0).toArray rfl rfl ?_; intro w1 s1 L1 Sz1 b1 g_; have H2_1 := Aside0.mk g_; clear g_; have K0 := kept_below b1; have HB1 := Aside0.mk (below_then HB0.out HB0.out.size b1); clear b1; clear K0 HB0) | ((with_reducible refine gate_dst (N := 3) rfl ?_); refine hx_box rfl 3 rfl 28 (.tmp 1) rfl Sz1 (.agg (nums .i64 a0).toArray) (nums .i64 a0).toArray rfl rfl ?_; intro w2 s2 L2 Sz2 b2 g_; have H3_2 := Aside0.mk g_; clear g_; have K1 := kept_below b2; have HB2 := Aside0.mk (below_then HB1.out HB1.out.size b2); have H2_2 := Aside0.mk (blk_kept H2_1.out K1 (fun h_ => h_)); clear b2; clear K1 HB1 H2_1) | ((with_reducible refine gate_dst (N := 6) rfl ?_); refine hx_loadf rfl 3 (.tmp 5) rfl s0 0 rfl Try.underlying3 rfl H2_2.out (lt_len (n := 15) N_.out (by decide)) ?_) | ((with_reducible refine gate_dst (N := 8) rfl ?_); refine hx_loadf rfl 3 (.tmp 7) rfl s1 0 rfl Try.underlying3 rfl H3_2.out (lt_len (n := 15) N_.out (by decide)) ?_) | ((with_reducible refine gate_dst (N := 11) rfl ?_); refine hx_loadp rfl 22 (.tmp 10) rfl s0 1 12 rfl Try.underlying22 rfl (by kernel_rfl) H2_2.out (le_len (n := 15) N_.out (by decide)) ?_) | ((with_reducible refine gate_dst (N := 13) rfl ?_); refine hx_loadp rfl 22 (.tmp 12) rfl s1 1 12 rfl Try.underlying22 rfl (by kernel_rfl) H3_2.out (le_len (n := 15) N_.out (by decide)) ?_) | ((with_reducible refine gate_dst (N := 14) rfl ?_); refine goesL_ (some 14) rfl rfl Try.func49 (by kernel_rfl) rfl #[.agg (nums .i64 (seg a0 1 12)).toArray, .agg (nums .i64 (seg a0 1 12)).toArray] rfl (by (try simp only [List.map_toArray, List.map_cons, List.map_nil]); first | done | rfl) ?_; refine (laws_eqIntA12.calls _ (part_len (n := 15) N_.out (by decide)) _ (part_len (n := 15) N_.out (by decide)) _ _ (if_pos rfl)).mono ?_; rintro e_ w3 ⟨rfl, b3⟩; refine ⟨_, rfl, ?_⟩; obtain ⟨s3, L3, Sz3⟩ := size_letter Sz2 (kept_below b3); have K2 := kept_below b3; have HB3 := Aside0.mk (below_then HB2.out HB2.out.size b3); have H2_3 := Aside0.mk (blk_kept H2_2.out K2 (fun h_ => h_)); have H3_3 := Aside0.mk (blk_kept H3_2.out K2 (fun h_ => h_)); clear b3; clear K2 HB2 H2_2 H3_2) | ((with_reducible refine gate_dst (N := 17) rfl ?_); refine hx_loadf rfl 3 (.tmp 16) rfl s0 13 rfl Try.underlying3 rfl H2_3.out (lt_len (n := 15) N_.out (by decide)) ?_) | ((with_reducible refine gate_dst (N := 19) rfl ?_); refine hx_loadf rfl 3 (.tmp 18) rfl s1 13 rfl Try.underlying3 rfl H3_3.out (lt_len (n := 15) N_.out (by decide)) ?_) | ((with_reducible refine gate_dst (N := 22) rfl ?_); refine hx_loadf rfl 3 (.tmp 21) rfl s0 14 rfl Try.underlying3 rfl H2_3.out (lt_len (n := 15) N_.out (by decide)) ?_) | ((with_reducible refine gate_dst (N := 24) rfl ?_); refine hx_loadf rfl 3 (.tmp 23) rfl s1 14 rfl Try.underlying3 rfl H3_3.out (lt_len (n := 15) N_.out (by decide)) ?_))
  go_ret
  exact ⟨rfl, HB3.out⟩

open Go.Proofs.YtkghgjehjchajaaW Go.Proofs.YtkghgjehjchajaaW.PrintHand Go.Proofs.YtkghgjehjchajaaW.PrintHx
/-! ### laws_eqInode: function 26 -/
def laws_eqInode.f (a0 a1 : List Int) : Option Bool := if a0 = a1 then some true else none
set_option maxHeartbeats 8000000 in
set_option maxRecDepth 100000 in
theorem laws_eqInode.calls (a0 : List Int) (n0 : a0.length = 24) (a1 : List Int) (n1 : a1.length = 24) (r : Bool) (w : World) (h : laws_eqInode.f a0 a1 = some r) :
    Calls Try.prog 26 #[.agg (nums .i64 a0).toArray, .agg (nums .i64 a1).toArray] w fun e w' => e = .returned (.bool r) ∧ Below w.heap.size w w' := by
  unfold laws_eqInode.f at h
  by_cases he : a0 = a1
  case neg => rw [if_neg he] at h; cases h
  rw [if_pos he] at h
  obtain rfl := Option.some.inj h
  subst he
  have N_ := Aside0.mk n0
  clear n0 n1 h
  have HB0 : Aside0 (Below w.heap.size w w) := ⟨Below.refl _ _⟩
  obtain ⟨s0, Sz0⟩ : ∃ s0, Aside0 (w.heap.size = s0) := ⟨_, ⟨rfl⟩⟩
  have hw0 : w.heap.size ≤ s0 := Nat.le_of_eq Sz0.out
  have hw1 : s0 ≤ w.heap.size := Nat.le_of_eq Sz0.out.symm
  go_enter Try.func26, Try.ntmps26
  go_wp2_with (first | ((with_reducible refine gate_dst (N := 2) rfl ?_); refine hx_box rfl 2 rfl 42 (.tmp 0) rfl Sz0 (.agg (nums .i64 a0).toArray) (nums .i64 a0).toArray rfl rfl ?_; intro w1 s1 L1 Sz1 b1 g_; have H2_1 := Aside0.mk g_; clear g_; have K0 := kept_below b1; have HB1 := Aside0.mk (below_then HB0.out HB0.out.size b1); clear b1; clear K0 HB0) | ((with_reducible refine gate_dst (N := 3) rfl ?_); refine hx_box rfl 3 rfl 42 (.tmp 1) rfl Sz1 (.agg (nums .i64 a0).toArray) (nums .i64 a0).toArray rfl rfl ?_; intro w2 s2 L2 Sz2 b2 g_; have H3_2 := Aside0.mk g_; clear g_; have K1 := kept_below b2; have HB2 := Aside0.mk (below_then HB1.out HB1.out.size b2); have H2_2 := Aside0.mk (blk_kept H2_1.out K1 (fun h_ => h_)); clear b2; clear K1 HB1 H2_1) | ((with_reducible refine gate_dst (N := 6) rfl ?_); refine hx_loadf rfl 3 (.tmp 5) rfl s0 0 rfl Try.underlying3 rfl H2_2.out (lt_len (n := 24) N_.out (by decide)) ?_) | ((with_reducible refine gate_dst (N := 8) rfl ?_); refine hx_loadf rfl 3 (.tmp 7) rfl s1 0 rfl Try.underlying3 rfl H3_2.out (lt_len (n := 24) N_.out (by decide)) ?_) | ((with_reducible refine gate_dst (N := 11) rfl ?_); refine hx_loadf rfl 3 (.tmp 10) rfl s0 1 rfl Try.underlying3 rfl H2_2.out (lt_len (n := 24) N_.out (by decide)) ?_) | ((with_reducible refine gate_dst (N := 13) rfl ?_); refine hx_loadf rfl 3 (.tmp 12) rfl s1 1 rfl Try.underlying3 rfl H3_2.out (lt_len (n := 24) N_.out (by decide)) ?_) | ((with_reducible refine gate_dst (N := 16) rfl ?_); refine hx_loadf rfl 3 (.tmp 15) rfl s0 2 rfl Try.underlying3 rfl H2_2.out (lt_len (n := 24) N_.out (by decide)) ?_) | ((with_reducible refine gate_dst (N := 18) rfl ?_); refine hx_loadf rfl 3 (.tmp 17) rfl s1 2 rfl Try.underlying3 rfl H3_2.out (lt_len (n := 24) N_.out (by decide)) ?_) | ((with_reducible refine gate_dst (N := 21) rfl ?_); refine hx_loadf rfl 3 (.tmp 20) rfl s0 3 rfl Try.underlying3 rfl H2_2.out (lt_len (n := 24) N_.out (by decide)) ?_) | ((with_reducible refine gate_dst (N := 23) rfl ?_); refine hx_loadf rfl 3 (.tmp 22) rfl s1 3 rfl Try.underlying3 rfl H3_2.out (lt_len (n := 24) N_.out (by decide)) ?_) | ((with_reducible refine gate_dst (N := 26) rfl ?_); refine hx_loadf rfl 3 (.tmp 25) rfl s0 4 rfl Try.underlying3 rfl H2_2.out (lt_len (n := 24) N_.out (by decide)) ?_) | ((with_reducible refine gate_dst (N := 28) rfl ?_); refine hx_loadf rfl 3 (.tmp 27) rfl s1 4 rfl Try.underlying3 rfl H3_2.out (lt_len (n := 24) N_.out (by decide)) ?_) | ((with_reducible refine gate_dst (N := 31) rfl ?_); refine hx_loadf rfl 3 (.tmp 30) rfl s0 5 rfl Try.underlying3 rfl H2_2.out (lt_len (n := 24) N_.out (by decide)) ?_) | ((with_reducible refine gate_dst (N := 33) rfl ?_); refine hx_loadf rfl 3 (.tmp 32) rfl s1 5 rfl Try.underlying3 rfl H3_2.out (lt_len (n := 24) N_.out (by decide)) ?_) | ((with_reducible refine gate_dst (N := 36) rfl ?_); refine hx_loadf rfl 3 (.tmp 35) rfl s0 6 rfl Try.underlying3 rfl H2_2.out (lt_len (n := 24) N_.out (by decide)) ?_) | ((with_reducible refine gate_dst (N := 38) rfl ?_); refine hx_loadf rfl 3 (.tmp 37) rfl s1 6 rfl Try.underlying3 rfl H3_2.out (lt_len (n := 24) N_.out (by decide)) ?_) | ((with_reducible refine gate_dst (N := 41) rfl ?_); refine hx_loadf rfl 3 (.tmp 40) rfl s0 7 rfl Try.underlying3 rfl H2_2.out (lt_len (n := 24) N_.out (by decide)) ?_) | ((with_reducible refine gate_dst (N := 43) rfl ?_); refine hx_loadf rfl 3 (.tmp 42) rfl s1 7 rfl Try.underlying3 rfl H3_2.out (lt_len (n := 24) N_.out (by decide)) ?_) | ((with_reducible refine gate_dst (N := 46) rfl ?_); refine hx_loadf rfl 3 (.tmp 45) rfl s0 8 rfl Try.underlying3 rfl H2_2.out (lt_len (n := 24) N_.out (by decide)) ?_) | ((with_reducible refine gate_dst (N := 48) rfl ?_); refine hx_loadf rfl 3 (.tmp 47) rfl s1 8 rfl Try.underlying3 rfl H3_2.out (lt_len (n := 24) N_.out (by decide)) ?_) | ((with_reducible refine gate_dst (N := 51) rfl ?_); refine hx_loadp rfl 28 (.tmp 50) rfl s0 9 15 rfl Try.underlying28 rfl (by kernel_rfl) H2_2.out (le_len (n := 24) N_.out (by decide)) ?_) | ((with_reducible refine gate_dst (N := 53) rfl ?_); refine hx_loadp rfl 28 (.tmp 52) rfl s1 9 15 rfl Try.underlying28 rfl (by kernel_rfl) H3_2.out (le_len (n := 24) N_.out (by decide)) ?_) | ((with_reducible refine gate_dst (N := 54) rfl ?_); refine goesL_ (some 54) rfl rfl Try.func20 (by kernel_rfl) rfl #[.agg (nums .i64 (seg a0 9 15)).toArray, .agg (nums .i64 (seg a0 9 15)).toArray] rfl (by (try simp only [List.map_toArray, List.map_cons, List.map_nil]); first | done | rfl) ?_; refine (laws_eqRoot.calls _ (part_len (n := 24) N_.out (by decide)) _ (part_len (n := 24) N_.out (by decide)) _ _ (if_pos rfl)).mono ?_; rintro e_ w3 ⟨rfl, b3⟩; refine ⟨_, rfl, ?_⟩; obtain ⟨s3, L3, Sz3⟩ := size_letter Sz2 (kept_below b3); have K2 := kept_below b3; have HB3 := Aside0.mk (below_then HB2.out HB2.out.size b3); have H2_3 := Aside0.mk (blk_kept H2_2.out K2 (fun h_ => h_)); have H3_3 := Aside0.mk (blk_kept H3_2.out K2 (fun h_ => h_)); clear b3; clear K2 HB2 H2_2 H3_2))
  go_ret
  exact ⟨rfl, HB3.out⟩

end Go.Proofs.Ytkghgjehjchajaa.PFnExactLowestInode
