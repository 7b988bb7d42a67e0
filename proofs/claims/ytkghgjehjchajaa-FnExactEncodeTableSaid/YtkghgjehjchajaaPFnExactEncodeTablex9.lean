-- Written by a program of this session (patch_print.py over the kit print)
import Derived.Test.YtkghgjehjchajaaPFnExactEncodeTablex0
import Derived.Test.YtkghgjehjchajaaPFnExactEncodeTablex8
namespace Go.Proofs.Ytkghgjehjchajaa.PFnExactEncodeTable
open Go.RowKit Go.Proofs.YtkghgjehjchajaaW.PrintWords Go.Proofs.YtkghgjehjchajaaW.PrintLast Go.Proofs.YtkghgjehjchajaaW.PrintMore
attribute [local go_sem] max2_int min2_int max_two min_two max_three min_three max_four min_four   -- for this text's walks alone
set_option linter.unusedVariables false
set_option linter.unusedSimpArgs false

open Go.Proofs.YtkghgjehjchajaaW Go.Proofs.YtkghgjehjchajaaW.PrintHand Go.Proofs.YtkghgjehjchajaaW.PrintHx
/-! ### impl_Root_put: function 45 -/
open Go.Proofs.YtkghgjehjchajaaW.PrintLe
theorem put_l0 (v : Int) (at_ size : Nat) (h0 : 0 ≤ v) (h1 : v ≤ 9223372036854775807) (h8 : size ≤ 8) : ∀ (d i k : Nat) (x0 : List Int), i + d = size → d < k → at_ + size ≤ x0.length → x0.length ≤ 1048576 → impl_put_int.l0 k x0 (at_ : Int) v (size : Int) (i : Int) = some (x0.take (at_ + i) ++ leB (v / 256 ^ i) d ++ x0.drop (at_ + size))
  | 0, i, k, x0, e1, e2, e3, e4 => by
    obtain ⟨k, rfl⟩ := sucK e2
    simp only [impl_put_int.l0]
    rw [if_neg (by omega), show at_ + i = at_ + size by omega]
    simp [leB]
  | d + 1, i, k, x0, e1, e2, e3, e4 => by
    obtain ⟨k, rfl⟩ := sucK e2
    simp only [impl_put_int.l0]
    have hw : wrap64 ((at_ : Int) + (i : Int)) = ((at_ + i : Nat) : Int) := by unfold wrap64; omega
    have h8i : wrap64 (8 * (i : Int)) = ((8 * i : Nat) : Int) := by unfold wrap64; omega
    rw [hw, h8i, if_pos (by omega), if_pos (by omega), if_pos (by omega), if_pos (by omega), w64n (by omega), put_l0 v at_ size h0 h1 h8 d (i + 1) k _ (by omega) (by omega) (by simpa using e3) (by simpa using e4)]
    have hv : (shr .u64 (IntKind.u64.wrap v) ((8 * i : Nat) : Int)) % 256 = v / 256 ^ i % 256 := by
      rw [wraps_u64 _ h0 (by omega)]
      unfold shr
      rw [Int.toNat_natCast, Nat.min_eq_left (by simp [IntKind.bits]; omega), Int.pow_mul, show (2 : Int) ^ 8 = 256 by decide]
    rw [hv, Int.toNat_natCast]
    congr 1
    have hlt : at_ + i < x0.length := by omega
    rw [show at_ + (i + 1) = (at_ + i) + 1 by omega, List.take_succ_eq_append_getElem (by simpa using hlt), List.getElem_set_self, List.take_set_of_le (Nat.le_refl _), List.drop_set_of_lt (by omega), leB, Int.ediv_ediv_of_nonneg (by have := p256 i; omega), ← Int.pow_succ]
    simp
/-- put: a number's bytes at a place -/
theorem put_f (x0 : List Int) (at_ size : Nat) (v : Int) (h0 : 0 ≤ v) (h1 : v ≤ 9223372036854775807) (h8 : size ≤ 8) (hat : at_ + size ≤ x0.length) (hx : x0.length ≤ 1048576) (k : Nat) (hk : 8 < k) : impl_put_int.f k x0 (at_ : Int) (size : Int) v = some (x0.take at_ ++ leB v size ++ x0.drop (at_ + size)) := by
  unfold impl_put_int.f
  have h := put_l0 v at_ size h0 h1 h8 size 0 k x0 (by omega) (by omega) hat hx
  rw [Int.pow_zero, Int.ediv_one] at h
  exact h

def impl_Root_put.f (a0 l1 : List Int) : Option (List Int) := if rootGood a0 = true ∧ 64 ≤ l1.length ∧ l1.length ≤ 1048576 then some (rootBytes a0 ++ l1.drop 64) else none
theorem impl_Root_put.step (s : Int) (xs l1 : List Int) (j : Nat) (hx : xs.length = 14) (hj : j < 14) (hl : 64 ≤ l1.length) (p : Int) (hp : p = xs.getD j 0) :
    let ls := leB s 8 ++ flat4 (xs.take j) ++ l1.drop (8 + 4 * j)
    ls.take (8 + 4 * j) ++ leB p 4 ++ ls.drop (8 + 4 * j + 4) = leB s 8 ++ flat4 (xs.take (j + 1)) ++ l1.drop (8 + 4 * (j + 1)) := by
  intro ls
  have h1 : (leB s 8 ++ flat4 (xs.take j)).length = 8 + 4 * j := by rw [List.length_append, leB_length, flat4_length, List.length_take, hx, Nat.min_eq_left (by omega)]
  have e1 : ls.take (8 + 4 * j) = leB s 8 ++ flat4 (xs.take j) := by rw [← h1]; exact List.take_left
  have e2 : ls.drop (8 + 4 * j + 4) = l1.drop (8 + 4 * (j + 1)) := by
    show (leB s 8 ++ flat4 (xs.take j) ++ l1.drop (8 + 4 * j)).drop (8 + 4 * j + 4) = _
    rw [List.drop_append, h1, List.drop_eq_nil_of_le (by rw [h1]; omega), List.nil_append, List.drop_drop]
    congr 1
    omega
  rw [e1, e2, flat4_take xs j (by omega), hp, List.append_assoc (leB s 8)]
theorem impl_Root_put.len (s : Int) (xs l1 : List Int) (j : Nat) (hx : xs.length = 14) (hj : j < 14) (hl : 64 ≤ l1.length) : (leB s 8 ++ flat4 (xs.take j) ++ l1.drop (8 + 4 * j)).length = l1.length := by
  rw [List.length_append, List.length_append, leB_length, flat4_length, List.length_take, hx, Nat.min_eq_left (by omega), List.length_drop]
  omega
theorem impl_Root_put.at_ (j : Nat) (hj : j < 14) : wrap64 (8 + wrap64 (4 * (j : Int))) = ((8 + 4 * j : Nat) : Int) := by
  unfold wrap64
  omega
theorem below_then2 {B : Nat} {w w1 w2 : World} (h : Below B w w1) (hB : B ≤ w1.heap.size) (k : Below w1.heap.size w1 w2) : Below B w w2 := below_then h hB k
set_option maxHeartbeats 8000000 in
set_option maxRecDepth 100000 in
theorem impl_Root_put.calls (a0 : List Int) (n0 : a0.length = 15) (P0_ : Nat → Prop) (u9000_ : Value) (l1 : List Int) (r : List Int) (w0 w : World) (hB : Below w0.heap.size w0 w) (ho1 : Kd.R (Kd.int .u8) 5 w w0.heap.size P0_ u9000_ l1) (h : impl_Root_put.f a0 l1 = some r) :
    Calls Try.prog 45 #[.agg (nums .i64 a0).toArray, u9000_] w fun e w' => e = .returned (.tuple #[]) ∧ Kd.R (Kd.int .u8) 5 w' w0.heap.size P0_ u9000_ r ∧ Below w0.heap.size w0 w' ∧ Kept w w' (fun k_ => P0_ k_) := by
  unfold impl_Root_put.f at h
  by_cases hgood : rootGood a0 = true ∧ 64 ≤ l1.length ∧ l1.length ≤ 1048576
  case neg => rw [if_neg hgood] at h; cases h
  rw [if_pos hgood] at h
  obtain rfl := Option.some.inj h
  have N_ := Aside0.mk n0
  have HG := Aside0.mk hgood.1
  have HL := Aside0.mk hgood.2
  have hle := hB.size
  have HB0 := Aside0.mk hB
  obtain ⟨s0, Sz0⟩ : ∃ s0, Aside0 (w.heap.size = s0) := ⟨_, ⟨rfl⟩⟩
  have hs0 : s0 = w.heap.size := Sz0.out.symm
  have O0 := Aside0.mk (show Kd.R (Kd.int .u8) 5 w w0.heap.size (fun k => P0_ k ∧ k < s0) u9000_ l1 from Kd.R_mono (Kd.R_bound ho1) (fun k hk => ⟨hk.1, by rw [hs0]; exact hk.2.2.1⟩))
  have hlt0 : w0.heap.size ≤ s0 := by rw [hs0]; exact hle
  clear hs0
  have hu28 := Try.underlying28
  clear n0 h hgood ho1 hB
  obtain ⟨s, hs⟩ : ∃ s, s = a0.getD 0 0 := ⟨_, rfl⟩
  have hs1 : 0 ≤ s ∧ s ≤ 262144 := by rw [hs]; exact rootGood_size HG.out
  have HS := Aside0.mk hs
  have HP8 := Aside0.mk (show impl_put_int.f 20 l1 0 8 s = some (l1.take 0 ++ leB s 8 ++ l1.drop (0 + 8)) from put_f l1 0 8 s hs1.1 (by omega) (by decide) (by have := HL.out; omega) (by have := HL.out; omega) 20 (by decide))
  clear hs hs1
  obtain ⟨xs, hxs⟩ : ∃ xs, xs = seg a0 1 14 := ⟨_, rfl⟩
  have HP := Aside0.mk (show impl_Root_pointers.f a0 = some xs by rw [hxs]; exact if_pos N_.out)
  have HXL := Aside0.mk (show xs.length = 14 by rw [hxs]; exact part_len (n := 15) N_.out (by decide))
  have HXS := Aside0.mk hxs
  have HXR := Aside0.mk (show ∀ j, j < 14 → 0 ≤ xs.getD j 0 ∧ xs.getD j 0 < 2048 by rw [hxs]; exact fun j hj => rootGood_ptr HG.out j hj)
  clear hxs
  have hle0 : w0.heap.size ≤ s0 := hlt0
  go_enter Try.func45, Try.ntmps45
  go_wp2_with (first | ((with_reducible refine gate_dst (N := 2) rfl ?_); refine hx_box rfl 2 rfl 28 (.tmp 0) rfl Sz0 (.agg (nums .i64 a0).toArray) (nums .i64 a0).toArray rfl rfl ?_; intro w1 s1 L1 Sz1 b1 g_; have H1 := Aside0.mk g_; have HB1 := Aside0.mk (below_then2 HB0.out hle b1); have KP1 := Aside0.mk (Kept.of_below b1 P0_); have O1 := Aside0.mk (Kd.R_below O0.out b1); clear g_ b1 HB0 O0) | ((with_reducible refine gate_dst (N := 8) rfl ?_); refine hx_loadf rfl 3 (.tmp 7) rfl s0 0 rfl Try.underlying3 rfl H1.out (lt_len (n := 15) N_.out (by decide)) ?_; rw [← HS.out]) | ((with_reducible refine gate_dst (N := 9) rfl ?_); refine goesL_ (some 9) rfl rfl Try.func53 (by kernel_rfl) rfl #[u9000_, .int .i64 0, .int .i64 8, .int .i64 s] rfl (by (try simp only [List.map_toArray, List.map_cons, List.map_nil]); first | done | rfl) ?_; refine (impl_put_int.calls 20 (fun k => P0_ k ∧ k < s0) u9000_ l1 0 8 s _ w0 w1 HB1.out O1.out HP8.out).mono ?_; rintro e_ w2 ⟨rfl, R_, hb_, kp_⟩; refine ⟨_, rfl, ?_⟩; have O2 := own_same R_ O1.out rfl; have HB2 := Aside0.mk hb_; have KP2 := Aside0.mk (KP1.out.then_ kp_ (fun k hk => .inl hk.1)); have H2 := Aside0.mk (blk_kept H1.out kp_ (fun hk => by have := hk.2; omega)); obtain ⟨s2, L2, Sz2⟩ := size_letter Sz1 kp_; clear R_ hb_ kp_ O1 HB1 KP1 H1) | ((with_reducible refine gate_dst (N := 10) rfl ?_); refine hx_load rfl 28 (.tmp 2) rfl s0 15 rfl Try.underlying28 rfl (by kernel_rfl) H2.out (nums_size _ _ _ N_.out) ?_) | ((with_reducible refine gate_dst (N := 11) rfl ?_); refine goesL_ (some 11) rfl rfl Try.func72 (by kernel_rfl) rfl #[.agg (nums .i64 a0).toArray] rfl (by (try simp only [List.map_toArray, List.map_cons, List.map_nil]); first | done | rfl) ?_; refine (impl_Root_pointers.calls a0 N_.out xs _ HP.out).mono ?_; rintro e_ w3 ⟨v0_, rfl, R_, b_⟩; obtain ⟨A11, c11, rfl⟩ := Kd.R_slice R_; refine ⟨_, rfl, ?_⟩; obtain ⟨s3, L3, Sz3⟩ := size_letter Sz2 (kept_below b_); have OP := own_btw (B := w0.heap.size) R_ Sz2.out Sz3 (by have := Sz2.out; omega); have O3 := Aside0.mk (Kd.R_below O2.out b_); have HB3 := Aside0.mk (below_then2 HB2.out (by have := Sz2.out; omega) b_); have KP3 := Aside0.mk (KP2.out.below b_); clear R_ b_ O2 HB2 KP2 H2))
  (try simp only [Act.put, List.setIfInBounds_toArray, List.set_cons_succ, List.set_cons_zero])
  go_loopw [13] (fun v13 wr => ∃ j : Nat, v13 = .int .i64 (j : Int) ∧ Aside0 (j ≤ 14) ∧ Aside0 (Kd.R (Kd.int .u8) 5 wr w0.heap.size (fun k => P0_ k ∧ k < s0) u9000_ (leB s 8 ++ flat4 (xs.take j) ++ l1.drop (8 + 4 * j))) ∧ Aside0 (Kd.R (Kd.int .i64) 3 wr w0.heap.size (Btw s2 s3) (.slice A11 xs.length c11) xs) ∧ Aside0 (Below w0.heap.size w0 wr) ∧ Aside0 (Kept w wr P0_)) (fun v13 _ => 14 - (intOf v13).toNat)
  case atStart => exact ⟨0, rfl, ⟨by omega⟩, ⟨by have := O3.out; simpa [flat4] using this⟩, OP, HB3, KP3⟩
  case round =>
    clear O3 OP HB3 KP3
    obtain ⟨j, rfl, hj, OO0, OP, HB, KP⟩ := hrel
    by_cases c9 : j < 14
    · have c9b0 : decide ((j : Int) < (xs.length : Int)) = true := decide_eq_true (by rw [HXL.out]; omega)
      have c9b1 : decide (j < xs.length) = true := decide_eq_true (by rw [HXL.out]; omega)
      have p112 : 0 ≤ (j : Int) := by omega
      have q112 : (j : Int) < (xs.length : Int) := by rw [HXL.out]; omega
      obtain ⟨ad112, e112, hx112⟩ := Kd.at_int (Kd.R_reads' OP.out).2.2 (j : Int) p112 q112
      cases e112
      rw [Int.toNat_natCast] at hx112
      replace p112 := eq_true p112
      replace q112 := eq_true q112
      have q113 : (j < xs.length) = True := eq_true (by rw [HXL.out]; omega)
      obtain ⟨p, hp⟩ : ∃ p, p = rd xs (j : Int) := ⟨_, rfl⟩
      rw [← hp] at hx112
      have HPV := Aside0.mk (show p = xs.getD j 0 by rw [hp, rd, Int.toNat_natCast])
      have hpr : 0 ≤ p ∧ p < 2048 := by rw [HPV.out]; exact HXR.out j c9
      obtain ⟨ls, hls⟩ : ∃ ls, ls = leB s 8 ++ flat4 (xs.take j) ++ l1.drop (8 + 4 * j) := ⟨_, rfl⟩
      have hll : ls.length = l1.length := by rw [hls]; exact impl_Root_put.len s xs l1 j HXL.out c9 HL.out.1
      obtain ⟨at_, hat⟩ : ∃ a, a = wrap64 (8 + wrap64 (4 * (j : Int))) := ⟨_, rfl⟩
      have hat2 : at_ = ((8 + 4 * j : Nat) : Int) := by rw [hat]; exact impl_Root_put.at_ j c9
      have HP4 := Aside0.mk (show impl_put_int.f 20 ls at_ 4 p = some (ls.take (8 + 4 * j) ++ leB p 4 ++ ls.drop (8 + 4 * j + 4)) by rw [hat2]; exact put_f ls (8 + 4 * j) 4 p hpr.1 (Int.le_of_lt (Int.lt_trans hpr.2 (by decide))) (by decide) (by rw [hll]; have h1_ := HL.out.1; omega) (by rw [hll]; exact HL.out.2) 20 (by decide))
      have HAT := Aside0.mk hat
      have C9 := Aside0.mk c9
      have oo := OO0.out
      rw [← hls] at oo
      have OO := Aside0.mk oo
      have HLS := Aside0.mk hls
      clear hp c9 hpr hls oo OO0 hat hat2 hll
      go_wp2_with (first | ((with_reducible refine gate_dst (N := 23) rfl ?_); refine goesL_ (some 23) rfl rfl Try.func53 (by kernel_rfl) rfl #[u9000_, .int .i64 at_, .int .i64 4, .int .i64 p] rfl (by (try simp only [List.map_toArray, List.map_cons, List.map_nil]); first | done | rfl | (rw [HAT.out]; rfl)) ?_; refine (impl_put_int.calls 20 (fun k => P0_ k ∧ k < s0) u9000_ ls at_ 4 p _ w0 _ HB.out OO.out HP4.out).mono ?_; rintro e_ w4 ⟨rfl, R_, hb_, kp_⟩; refine ⟨_, rfl, ?_⟩; have OO4 := own_same R_ OO.out rfl; have HB4 := Aside0.mk hb_; have KP4 := Aside0.mk (KP.out.then_ kp_ (fun k hk => .inl hk.1)); have OP4 := Aside0.mk (Kd.R_kept OP.out kp_ (fun k hk hk2 => by have h1_ := hk.1; have h2_ := hk2.2; omega)); clear R_ hb_ kp_ OO HB KP OP))
      go_roundw
      case rel =>
        refine ⟨j + 1, by rw [show wrap64 ((j : Int) + 1) = ((j + 1 : Nat) : Int) by (have := C9.out; unfold wrap64; omega)], ⟨by have := C9.out; omega⟩, ⟨?_⟩, OP4, HB4, KP4⟩
        have ho := OO4.out
        have e_ := impl_Root_put.step s xs l1 j HXL.out C9.out HL.out.1 p HPV.out
        simp only [] at e_
        rw [← HLS.out] at e_
        rw [e_] at ho
        exact ho
      case measure =>
        rw [show wrap64 ((j : Int) + 1) = ((j + 1 : Nat) : Int) by (have := C9.out; unfold wrap64; omega)]
        simp only [intOf, Int.toNat_natCast]
        have := C9.out
        omega
    · obtain rfl : j = 14 := by have := hj.out; omega
      have c9b0 : decide ((14 : Int) < (xs.length : Int)) = false := decide_eq_false (by rw [HXL.out]; decide)
      have c9b1 : decide (14 < xs.length) = false := decide_eq_false (by rw [HXL.out]; decide)
      go_wp2
      have ho := OO0.out
      rw [List.take_of_length_le (by rw [HXL.out]; exact Nat.le_refl _), HXS.out, HS.out] at ho
      refine Go.Great.bodyPost_end0 rfl rfl ⟨rfl, Kd.R_mono ho (fun _ hk => hk.1), HB.out, KP.out⟩

/-! ### impl_within: function 71 -/
def impl_within.f (a0 : Int) (a1 : Int) (a2 : Int) : Option (Bool) := if a0 ≥ a1 then (some (decide (a0 ≤ a2))) else (some false)
set_option maxHeartbeats 8000000 in
set_option maxRecDepth 100000 in
theorem impl_within.calls (a0 : Int) (a1 : Int) (a2 : Int) (r : Bool) (w : World) (h : impl_within.f a0 a1 a2 = some r) :
    Calls Try.prog 71 #[.int .i64 a0, .int .i64 a1, .int .i64 a2] w fun e w' => e = .returned (.bool r) ∧ Drawn0 w w' := by
  have H : (if a0 ≥ a1 then (some (decide (a0 ≤ a2))) else (some false)) = some r := h
  clear h
  by_cases c4 : a0 ≥ a1
  · rw [if_pos c4] at H
    have c4b0 : decide (a1 ≤ a0) = true := decide_eq_true c4
    clear c4
    obtain rfl := Option.some.inj H
    go_enter Try.func71, Try.ntmps71
    go_wp2
    go_ret
    exact ⟨by first | rfl | (simp; done) | (simp [*]; done), by repeat (first | exact Drawn0.refl _ | apply Drawn0.step)⟩
  · rw [if_neg c4] at H
    have c4b0 : decide (a1 ≤ a0) = false := decide_eq_false c4
    clear c4
    obtain rfl := Option.some.inj H
    go_enter Try.func71, Try.ntmps71
    go_wp2
    go_ret
    exact ⟨by first | rfl | (simp; done) | (simp [*]; done), by repeat (first | exact Drawn0.refl _ | apply Drawn0.step)⟩

/-! ### impl_isPointer: function 73 -/
def impl_isPointer.f (a0 : Int) (a1 : Int) : Option (Bool) := if a0 = 0 then (some true) else ((impl_within.f a0 2 (wrap64 (a1 - 1))).bind fun t128 => (some t128))
set_option maxHeartbeats 8000000 in
set_option maxRecDepth 100000 in
theorem impl_isPointer.calls (a0 : Int) (a1 : Int) (r : Bool) (w : World) (h : impl_isPointer.f a0 a1 = some r) :
    Calls Try.prog 73 #[.int .i64 a0, .int .i64 a1] w fun e w' => e = .returned (.bool r) ∧ Drawn0 w w' := by
  have H : (if a0 = 0 then (some true) else ((impl_within.f a0 2 (wrap64 (a1 - 1))).bind fun t128 => (some t128))) = some r := h
  clear h
  by_cases c3 : a0 = 0
  · rw [if_pos c3] at H
    have c3b0 : (a0 == 0) = true := beq_iff_eq.mpr c3
    have c3b1 : (a0 != 0) = false := bne_eq_false_iff_eq.mpr c3
    clear c3
    obtain rfl := Option.some.inj H
    go_enter Try.func73, Try.ntmps73
    go_wp2
    go_ret
    exact ⟨by first | rfl | (simp; done) | (simp [*]; done), by repeat (first | exact Drawn0.refl _ | apply Drawn0.step)⟩
  · rw [if_neg c3] at H
    have c3b0 : (a0 == 0) = false := beq_eq_false_iff_ne.mpr c3
    have c3b1 : (a0 != 0) = true := bne_iff_ne.mpr c3
    replace H := Option.bind_eq_some_iff.mp H
    obtain ⟨t128, A40, H⟩ := H
    replace H : (some t128) = some r := H
    have A4 := Aside0.mk A40
    clear A40
    obtain rfl := Option.some.inj H
    go_enter Try.func73, Try.ntmps73
    go_wp2_with (first | (go_at_call 71; (with_reducible refine (impl_within.calls a0 2 (wrap64 (a1 - 1)) t128 _ A4.out).mono ?_); rintro e w' ⟨rfl, ⟨nd, rfl⟩⟩))
    go_ret
    exact ⟨by first | rfl | (simp; done) | (simp [*]; done), by repeat (first | exact Drawn0.refl _ | apply Drawn0.step)⟩

/-! ### impl_count: function 74 -/
def impl_count.f (a0 : Int) : Option (Int) := some (wrap64 (Int.tdiv (wrap64 ((wrap64 (a0 + 512)) - 1)) 512))
set_option maxHeartbeats 8000000 in
set_option maxRecDepth 100000 in
theorem impl_count.calls (a0 : Int) (r : Int) (w : World) (h : impl_count.f a0 = some r) :
    Calls Try.prog 74 #[.int .i64 a0] w fun e w' => e = .returned (.int .i64 r) ∧ Drawn0 w w' := by
  have H : (some (wrap64 (Int.tdiv (wrap64 ((wrap64 (a0 + 512)) - 1)) 512))) = some r := h
  clear h
  obtain rfl := Option.some.inj H
  go_enter Try.func74, Try.ntmps74
  go_wp2
  go_ret
  exact ⟨by first | rfl | (simp; done) | (simp [*]; done), by repeat (first | exact Drawn0.refl _ | apply Drawn0.step)⟩

end Go.Proofs.Ytkghgjehjchajaa.PFnExactEncodeTable
