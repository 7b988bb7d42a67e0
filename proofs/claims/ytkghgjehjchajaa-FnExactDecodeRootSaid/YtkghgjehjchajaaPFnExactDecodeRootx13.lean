-- Written by a program of this session (patch_print.py over the kit print)
import Derived.Test.YtkghgjehjchajaaPFnExactDecodeRootx0
import Derived.Test.YtkghgjehjchajaaPFnExactDecodeRootx9
import Derived.Test.YtkghgjehjchajaaPFnExactDecodeRootx11
import Derived.Test.YtkghgjehjchajaaPFnExactDecodeRootx12
namespace Go.Proofs.Ytkghgjehjchajaa.PFnExactDecodeRoot
open Go.RowKit Go.Proofs.YtkghgjehjchajaaW.PrintWords Go.Proofs.YtkghgjehjchajaaW.PrintLast Go.Proofs.YtkghgjehjchajaaW.PrintMore
attribute [local go_sem] max2_int min2_int max_two min_two max_three min_three max_four min_four   -- for this text's walks alone
set_option linter.unusedVariables false
set_option linter.unusedSimpArgs false

open Go.Proofs.YtkghgjehjchajaaW Go.Proofs.YtkghgjehjchajaaW.PrintHand Go.Proofs.YtkghgjehjchajaaW.PrintHx
/-! ### impl_Root_put: function 45 -/
open Go.Proofs.YtkghgjehjchajaaW.PrintLe
theorem put_l0 (v : Int) (at_ size : Nat) (h0 : 0 ≤ v) (h1 : v ≤ 9223372036854775807) (h8 : size ≤ 8) : ∀ (d i k : Nat) (x0 : List Int), i + d = size → d < k → at_ + size ≤ x0.length → x0.length ≤ 1048576 → impl_put_int.l0 k x0 (at_ : Int) v (size : Int) (i : Int) = some (x0.take (at_ + i) ++ leB (v / 256 ^ i) d ++ x0.drop (at_ + size))
  | 0, i, k, x0, e1, e2, e3, e4 => by
    obtain ⟨k, rfl⟩ := sucK e2
    simp only [impl_put_int.l0]
    rw [if_neg (by omega), show at_ + i = at_ + size by omega]
    simp [leB]
  | d + 1, i, k, x0, e1, e2, e3, e4 => by
    obtain ⟨k, rfl⟩ := sucK e2
    simp only [impl_put_int.l0]
    have hw : wrap64 ((at_ : Int) + (i : Int)) = ((at_ + i : Nat) : Int) := by unfold wrap64; omega
    have h8i : wrap64 (8 * (i : Int)) = ((8 * i : Nat) : Int) := by unfold wrap64; omega
    rw [hw, h8i, if_pos (by omega), if_pos (by omega), if_pos (by omega), if_pos (by omega), w64n (by omega), put_l0 v at_ size h0 h1 h8 d (i + 1) k _ (by omega) (by omega) (by simpa using e3) (by simpa using e4)]
    have hv : (shr .u64 (IntKind.u64.wrap v) ((8 * i : Nat) : Int)) % 256 = v / 256 ^ i % 256 := by
      rw [wraps_u64 _ h0 (by omega)]
      unfold shr
      rw [Int.toNat_natCast, Nat.min_eq_left (by simp [IntKind.bits]; omega), Int.pow_mul, show (2 : Int) ^ 8 = 256 by decide]
    rw [hv, Int.toNat_natCast]
    congr 1
    have hlt : at_ + i < x0.length := by omega
    rw [show at_ + (i + 1) = (at_ + i) + 1 by omega, List.take_succ_eq_append_getElem (by simpa using hlt), List.getElem_set_self, List.take_set_of_le (Nat.le_refl _), List.drop_set_of_lt (by omega), leB, Int.ediv_ediv_of_nonneg (by have := p256 i; omega), ← Int.pow_succ]
    simp
/-- put: a number's bytes at a place -/
theorem put_f (x0 : List Int) (at_ size : Nat) (v : Int) (h0 : 0 ≤ v) (h1 : v ≤ 9223372036854775807) (h8 : size ≤ 8) (hat : at_ + size ≤ x0.length) (hx : x0.length ≤ 1048576) (k : Nat) (hk : 8 < k) : impl_put_int.f k x0 (at_ : Int) (size : Int) v = some (x0.take at_ ++ leB v size ++ x0.drop (at_ + size)) := by
  unfold impl_put_int.f
  have h := put_l0 v at_ size h0 h1 h8 size 0 k x0 (by omega) (by omega) hat hx
  rw [Int.pow_zero, Int.ediv_one] at h
  exact h

def impl_Root_put.f (a0 l1 : List Int) : Option (List Int) := if rootGood a0 = true ∧ 64 ≤ l1.length ∧ l1.length ≤ 1048576 then some (rootBytes a0 ++ l1.drop 64) else none
theorem impl_Root_put.step (s : Int) (xs l1 : List Int) (j : Nat) (hx : xs.length = 14) (hj : j < 14) (hl : 64 ≤ l1.length) (p : Int) (hp : p = xs.getD j 0) :
    let ls := leB s 8 ++ flat4 (xs.take j) ++ l1.drop (8 + 4 * j)
    ls.take (8 + 4 * j) ++ leB p 4 ++ ls.drop (8 + 4 * j + 4) = leB s 8 ++ flat4 (xs.take (j + 1)) ++ l1.drop (8 + 4 * (j + 1)) := by
  intro ls
  have h1 : (leB s 8 ++ flat4 (xs.take j)).length = 8 + 4 * j := by rw [List.length_append, leB_length, flat4_length, List.length_take, hx, Nat.min_eq_left (by omega)]
  have e1 : ls.take (8 + 4 * j) = leB s 8 ++ flat4 (xs.take j) := by rw [← h1]; exact List.take_left
  have e2 : ls.drop (8 + 4 * j + 4) = l1.drop (8 + 4 * (j + 1)) := by
    show (leB s 8 ++ flat4 (xs.take j) ++ l1.drop (8 + 4 * j)).drop (8 + 4 * j + 4) = _
    rw [List.drop_append, h1, List.drop_eq_nil_of_le (by rw [h1]; omega), List.nil_append, List.drop_drop]
    congr 1
    omega
  rw [e1, e2, flat4_take xs j (by omega), hp, List.append_assoc (leB s 8)]
theorem impl_Root_put.len (s : Int) (xs l1 : List Int) (j : Nat) (hx : xs.length = 14) (hj : j < 14) (hl : 64 ≤ l1.length) : (leB s 8 ++ flat4 (xs.take j) ++ l1.drop (8 + 4 * j)).length = l1.length := by
  rw [List.length_append, List.length_append, leB_length, flat4_length, List.length_take, hx, Nat.min_eq_left (by omega), List.length_drop]
  omega
theorem impl_Root_put.at_ (j : Nat) (hj : j < 14) : wrap64 (8 + wrap64 (4 * (j : Int))) = ((8 + 4 * j : Nat) : Int) := by
  unfold wrap64
  omega
theorem below_then2 {B : Nat} {w w1 w2 : World} (h : Below B w w1) (hB : B ≤ w1.heap.size) (k : Below w1.heap.size w1 w2) : Below B w w2 := below_then h hB k
set_option maxHeartbeats 8000000 in
set_option maxRecDepth 100000 in
theorem impl_Root_put.calls (a0 : List Int) (n0 : a0.length = 15) (P0_ : Nat → Prop) (u9000_ : Value) (l1 : List Int) (r : List Int) (w0 w : World) (hB : Below w0.heap.size w0 w) (ho1 : Kd.R (Kd.int .u8) 5 w w0.heap.size P0_ u9000_ l1) (h : impl_Root_put.f a0 l1 = some r) :
    Calls Try.prog 45 #[.agg (nums .i64 a0).toArray, u9000_] w fun e w' => e = .returned (.tuple #[]) ∧ Kd.R (Kd.int .u8) 5 w' w0.heap.size P0_ u9000_ r ∧ Below w0.heap.size w0 w' ∧ Kept w w' (fun k_ => P0_ k_) := by
  unfold impl_Root_put.f at h
  by_cases hgood : rootGood a0 = true ∧ 64 ≤ l1.length ∧ l1.length ≤ 1048576
  case neg => rw [if_neg hgood] at h; cases h
  rw [if_pos hgood] at h
  obtain rfl := Option.some.inj h
  have N_ := Aside0.mk n0
  have HG := Aside0.mk hgood.1
  have HL := Aside0.mk hgood.2
  have hle := hB.size
  have HB0 := Aside0.mk hB
  obtain ⟨s0, Sz0⟩ : ∃ s0, Aside0 (w.heap.size = s0) := ⟨_, ⟨rfl⟩⟩
  have hs0 : s0 = w.heap.size := Sz0.out.symm
  have O0 := Aside0.mk (show Kd.R (Kd.int .u8) 5 w w0.heap.size (fun k => P0_ k ∧ k < s0) u9000_ l1 from Kd.R_mono (Kd.R_bound ho1) (fun k hk => ⟨hk.1, by rw [hs0]; exact hk.2.2.1⟩))
  have hlt0 : w0.heap.size ≤ s0 := by rw [hs0]; exact hle
  clear hs0
  have hu28 := Try.underlying28
  clear n0 h hgood ho1 hB
  obtain ⟨s, hs⟩ : ∃ s, s = a0.getD 0 0 := ⟨_, rfl⟩
  have hs1 : 0 ≤ s ∧ s ≤ 262144 := by rw [hs]; exact rootGood_size HG.out
  have HS := Aside0.mk hs
  have HP8 := Aside0.mk (show impl_put_int.f 20 l1 0 8 s = some (l1.take 0 ++ leB s 8 ++ l1.drop (0 + 8)) from put_f l1 0 8 s hs1.1 (by omega) (by decide) (by have := HL.out; omega) (by have := HL.out; omega) 20 (by decide))
  clear hs hs1
  obtain ⟨xs, hxs⟩ : ∃ xs, xs = seg a0 1 14 := ⟨_, rfl⟩
  have HP := Aside0.mk (show impl_Root_pointers.f a0 = some xs by rw [hxs]; exact if_pos N_.out)
  have HXL := Aside0.mk (show xs.length = 14 by rw [hxs]; exact part_len (n := 15) N_.out (by decide))
  have HXS := Aside0.mk hxs
  have HXR := Aside0.mk (show ∀ j, j < 14 → 0 ≤ xs.getD j 0 ∧ xs.getD j 0 < 2048 by rw [hxs]; exact fun j hj => rootGood_ptr HG.out j hj)
  clear hxs
  have hle0 : w0.heap.size ≤ s0 := hlt0
  go_enter Try.func45, Try.ntmps45
  go_wp2_with (first | ((with_reducible refine gate_dst (N := 2) rfl ?_); refine hx_box rfl 2 rfl 28 (.tmp 0) rfl Sz0 (.agg (nums .i64 a0).toArray) (nums .i64 a0).toArray rfl rfl ?_; intro w1 s1 L1 Sz1 b1 g_; have H1 := Aside0.mk g_; have HB1 := Aside0.mk (below_then2 HB0.out hle b1); have KP1 := Aside0.mk (Kept.of_below b1 P0_); have O1 := Aside0.mk (Kd.R_below O0.out b1); clear g_ b1 HB0 O0) | ((with_reducible refine gate_dst (N := 8) rfl ?_); refine hx_loadf rfl 3 (.tmp 7) rfl s0 0 rfl Try.underlying3 rfl H1.out (lt_len (n := 15) N_.out (by decide)) ?_; rw [← HS.out]) | ((with_reducible refine gate_dst (N := 9) rfl ?_); refine goesL_ (some 9) rfl rfl Try.func53 (by kernel_rfl) rfl #[u9000_, .int .i64 0, .int .i64 8, .int .i64 s] rfl (by (try simp only [List.map_toArray, List.map_cons, List.map_nil]); first | done | rfl) ?_; refine (impl_put_int.calls 20 (fun k => P0_ k ∧ k < s0) u9000_ l1 0 8 s _ w0 w1 HB1.out O1.out HP8.out).mono ?_; rintro e_ w2 ⟨rfl, R_, hb_, kp_⟩; refine ⟨_, rfl, ?_⟩; have O2 := own_same R_ O1.out rfl; have HB2 := Aside0.mk hb_; have KP2 := Aside0.mk (KP1.out.then_ kp_ (fun k hk => .inl hk.1)); have H2 := Aside0.mk (blk_kept H1.out kp_ (fun hk => by have := hk.2; omega)); obtain ⟨s2, L2, Sz2⟩ := size_letter Sz1 kp_; clear R_ hb_ kp_ O1 HB1 KP1 H1) | ((with_reducible refine gate_dst (N := 10) rfl ?_); refine hx_load rfl 28 (.tmp 2) rfl s0 15 rfl Try.underlying28 rfl (by kernel_rfl) H2.out (nums_size _ _ _ N_.out) ?_) | ((with_reducible refine gate_dst (N := 11) rfl ?_); refine goesL_ (some 11) rfl rfl Try.func72 (by kernel_rfl) rfl #[.agg (nums .i64 a0).toArray] rfl (by (try simp only [List.map_toArray, List.map_cons, List.map_nil]); first | done | rfl) ?_; refine (impl_Root_pointers.calls a0 N_.out xs _ HP.out).mono ?_; rintro e_ w3 ⟨v0_, rfl, R_, b_⟩; obtain ⟨A11, c11, rfl⟩ := Kd.R_slice R_; refine ⟨_, rfl, ?_⟩; obtain ⟨s3, L3, Sz3⟩ := size_letter Sz2 (kept_below b_); have OP := own_btw (B := w0.heap.size) R_ Sz2.out Sz3 (by have := Sz2.out; omega); have O3 := Aside0.mk (Kd.R_below O2.out b_); have HB3 := Aside0.mk (below_then2 HB2.out (by have := Sz2.out; omega) b_); have KP3 := Aside0.mk (KP2.out.below b_); clear R_ b_ O2 HB2 KP2 H2))
  (try simp only [Act.put, List.setIfInBounds_toArray, List.set_cons_succ, List.set_cons_zero])
  go_loopw [13] (fun v13 wr => ∃ j : Nat, v13 = .int .i64 (j : Int) ∧ Aside0 (j ≤ 14) ∧ Aside0 (Kd.R (Kd.int .u8) 5 wr w0.heap.size (fun k => P0_ k ∧ k < s0) u9000_ (leB s 8 ++ flat4 (xs.take j) ++ l1.drop (8 + 4 * j))) ∧ Aside0 (Kd.R (Kd.int .i64) 3 wr w0.heap.size (Btw s2 s3) (.slice A11 xs.length c11) xs) ∧ Aside0 (Below w0.heap.size w0 wr) ∧ Aside0 (Kept w wr P0_)) (fun v13 _ => 14 - (intOf v13).toNat)
  case atStart => exact ⟨0, rfl, ⟨by omega⟩, ⟨by have := O3.out; simpa [flat4] using this⟩, OP, HB3, KP3⟩
  case round =>
    clear O3 OP HB3 KP3
    obtain ⟨j, rfl, hj, OO0, OP, HB, KP⟩ := hrel
    by_cases c9 : j < 14
    · have c9b0 : decide ((j : Int) < (xs.length : Int)) = true := decide_eq_true (by rw [HXL.out]; omega)
      have c9b1 : decide (j < xs.length) = true := decide_eq_true (by rw [HXL.out]; omega)
      have p112 : 0 ≤ (j : Int) := by omega
      have q112 : (j : Int) < (xs.length : Int) := by rw [HXL.out]; omega
      obtain ⟨ad112, e112, hx112⟩ := Kd.at_int (Kd.R_reads' OP.out).2.2 (j : Int) p112 q112
      cases e112
      rw [Int.toNat_natCast] at hx112
      replace p112 := eq_true p112
      replace q112 := eq_true q112
      have q113 : (j < xs.length) = True := eq_true (by rw [HXL.out]; omega)
      obtain ⟨p, hp⟩ : ∃ p, p = rd xs (j : Int) := ⟨_, rfl⟩
      rw [← hp] at hx112
      have HPV := Aside0.mk (show p = xs.getD j 0 by rw [hp, rd, Int.toNat_natCast])
      have hpr : 0 ≤ p ∧ p < 2048 := by rw [HPV.out]; exact HXR.out j c9
      obtain ⟨ls, hls⟩ : ∃ ls, ls = leB s 8 ++ flat4 (xs.take j) ++ l1.drop (8 + 4 * j) := ⟨_, rfl⟩
      have hll : ls.length = l1.length := by rw [hls]; exact impl_Root_put.len s xs l1 j HXL.out c9 HL.out.1
      obtain ⟨at_, hat⟩ : ∃ a, a = wrap64 (8 + wrap64 (4 * (j : Int))) := ⟨_, rfl⟩
      have hat2 : at_ = ((8 + 4 * j : Nat) : Int) := by rw [hat]; exact impl_Root_put.at_ j c9
      have HP4 := Aside0.mk (show impl_put_int.f 20 ls at_ 4 p = some (ls.take (8 + 4 * j) ++ leB p 4 ++ ls.drop (8 + 4 * j + 4)) by rw [hat2]; exact put_f ls (8 + 4 * j) 4 p hpr.1 (Int.le_of_lt (Int.lt_trans hpr.2 (by decide))) (by decide) (by rw [hll]; have h1_ := HL.out.1; omega) (by rw [hll]; exact HL.out.2) 20 (by decide))
      have HAT := Aside0.mk hat
      have C9 := Aside0.mk c9
      have oo := OO0.out
      rw [← hls] at oo
      have OO := Aside0.mk oo
      have HLS := Aside0.mk hls
      clear hp c9 hpr hls oo OO0 hat hat2 hll
      go_wp2_with (first | ((with_reducible refine gate_dst (N := 23) rfl ?_); refine goesL_ (some 23) rfl rfl Try.func53 (by kernel_rfl) rfl #[u9000_, .int .i64 at_, .int .i64 4, .int .i64 p] rfl (by (try simp only [List.map_toArray, List.map_cons, List.map_nil]); first | done | rfl | (rw [HAT.out]; rfl)) ?_; refine (impl_put_int.calls 20 (fun k => P0_ k ∧ k < s0) u9000_ ls at_ 4 p _ w0 _ HB.out OO.out HP4.out).mono ?_; rintro e_ w4 ⟨rfl, R_, hb_, kp_⟩; refine ⟨_, rfl, ?_⟩; have OO4 := own_same R_ OO.out rfl; have HB4 := Aside0.mk hb_; have KP4 := Aside0.mk (KP.out.then_ kp_ (fun k hk => .inl hk.1)); have OP4 := Aside0.mk (Kd.R_kept OP.out kp_ (fun k hk hk2 => by have h1_ := hk.1; have h2_ := hk2.2; omega)); clear R_ hb_ kp_ OO HB KP OP))
      go_roundw
      case rel =>
        refine ⟨j + 1, by rw [show wrap64 ((j : Int) + 1) = ((j + 1 : Nat) : Int) by (have := C9.out; unfold wrap64; omega)], ⟨by have := C9.out; omega⟩, ⟨?_⟩, OP4, HB4, KP4⟩
        have ho := OO4.out
        have e_ := impl_Root_put.step s xs l1 j HXL.out C9.out HL.out.1 p HPV.out
        simp only [] at e_
        rw [← HLS.out] at e_
        rw [e_] at ho
        exact ho
      case measure =>
        rw [show wrap64 ((j : Int) + 1) = ((j + 1 : Nat) : Int) by (have := C9.out; unfold wrap64; omega)]
        simp only [intOf, Int.toNat_natCast]
        have := C9.out
        omega
    · obtain rfl : j = 14 := by have := hj.out; omega
      have c9b0 : decide ((14 : Int) < (xs.length : Int)) = false := decide_eq_false (by rw [HXL.out]; decide)
      have c9b1 : decide (14 < xs.length) = false := decide_eq_false (by rw [HXL.out]; decide)
      go_wp2
      have ho := OO0.out
      rw [List.take_of_length_le (by rw [HXL.out]; exact Nat.le_refl _), HXS.out, HS.out] at ho
      refine Go.Great.bodyPost_end0 rfl rfl ⟨rfl, Kd.R_mono ho (fun _ hk => hk.1), HB.out, KP.out⟩

open Go.Proofs.YtkghgjehjchajaaW Go.Proofs.YtkghgjehjchajaaW.PrintHand Go.Proofs.YtkghgjehjchajaaW.PrintHx
/-! ### impl_EncodeRoot: function 13 -/
open Go.Proofs.YtkghgjehjchajaaW.PrintLe
def impl_EncodeRoot.f (a0 : List Int) : Option (List Int × Int) := some (if rootGood a0 = true then (rootBytes a0, 0) else ([], 7))
set_option maxHeartbeats 8000000 in
set_option maxRecDepth 100000 in
theorem impl_EncodeRoot.calls (a0 : List Int) (n0 : a0.length = 15) (r1 : List Int) (r2 : Int) (w : World) (h : impl_EncodeRoot.f a0 = some (r1, r2)) :
    Calls Try.prog 13 #[.agg (nums .i64 a0).toArray] w fun e w' => ∃ v0_ : Value, e = .returned (.tuple #[v0_, .int .i64 r2]) ∧ Kd.R (Kd.int .u8) 5 w' w.heap.size (fun _ => True) v0_ r1 ∧ Below w.heap.size w w' := by
  unfold impl_EncodeRoot.f at h
  have N_ := Aside0.mk n0
  clear n0
  have info5_ : (Try.prog.info? 5).map (fun i => (i.zero, i.size, i.bytes)) = some (some (.int .u8 0), 1, 1) := by kernel_rfl
  have HB0 : Aside0 (Below w.heap.size w w) := ⟨Below.refl _ _⟩
  obtain ⟨s0, Sz0⟩ : ∃ s0, Aside0 (w.heap.size = s0) := ⟨_, ⟨rfl⟩⟩
  have hw0 : w.heap.size ≤ s0 := Nat.le_of_eq Sz0.out
  have hw1 : s0 ≤ w.heap.size := Nat.le_of_eq Sz0.out.symm
  by_cases hgood : rootGood a0 = true
  · rw [if_pos hgood] at h
    simp only [Option.some.injEq, Prod.mk.injEq] at h
    obtain ⟨rfl, rfl⟩ := h
    have HG := Aside0.mk (show impl_Root_right.f a0 = some true by rw [← hgood]; rfl)
    have HPT := Aside0.mk (show impl_Root_put.f a0 (List.replicate (Int.toNat 64) 0) = some (rootBytes a0) from (if_pos ⟨hgood, by decide, by decide⟩).trans (by rw [show (List.replicate (Int.toNat 64) (0 : Int)).drop 64 = [] from rfl, List.append_nil]))
    clear hgood
    go_enter Try.func13, Try.ntmps13
    go_wp2_with (first | ((with_reducible refine gate_dst (N := 1) rfl ?_); refine hx_box rfl 1 rfl 28 (.tmp 0) rfl Sz0 (.agg (nums .i64 a0).toArray) (nums .i64 a0).toArray rfl rfl ?_; intro w1 s1 L1 Sz1 b1 g_; have H0 := Aside0.mk g_; have HB1 := Aside0.mk (below_then HB0.out HB0.out.size b1); clear g_ HB0 b1) | ((with_reducible refine gate_dst (N := 5) rfl ?_); refine hx_load rfl 28 (.tmp 1) rfl s0 15 rfl Try.underlying28 rfl (by kernel_rfl) H0.out (nums_size _ _ _ N_.out) ?_) | ((with_reducible refine gate_dst (N := 6) rfl ?_); refine goesL_ (some 6) rfl rfl Try.func44 (by kernel_rfl) rfl #[.agg (nums .i64 a0).toArray] rfl (by (try simp only [List.map_toArray, List.map_cons, List.map_nil]); first | done | rfl) ?_; refine (impl_Root_right.calls a0 N_.out true _ HG.out).mono ?_; rintro e_ w2 ⟨rfl, b_⟩; refine ⟨_, rfl, ?_⟩; have HB2 := Aside0.mk (below_then HB1.out HB1.out.size b_); have H2 := Aside0.mk (blk_below H0.out b_); clear b_ HB1 H0) | ((with_reducible refine gate_dst (N := 8) rfl ?_); refine Kd.R_make (Kd.int .u8) (w0 := w) w.heap.size 5 rfl (N := 8) rfl 25 _ _ rfl 64 rfl rfl Try.underlying25 (.int .u8 0) 1 info5_ rfl (by decide) (by omega) 0 (ok := fun k => k ≠ s0) (okp := fun _ => False) rfl (fun _ h_ => h_.elim) (by have := blk_lt H2.out; omega) (by decide) (by decide) HB2.out HB2.out.size ?_; intro v8 w3 ho hb hg_ hn_; have O3 := Aside0.mk ho; have HB3 := Aside0.mk hb; have H3 := Aside0.mk (blk_grown H2.out hg_ (by simp)); clear ho hb hg_ hn_ HB2 H2) | ((with_reducible refine gate_dst (N := 9) rfl ?_); refine hx_load rfl 28 (.tmp 1) rfl s0 15 rfl Try.underlying28 rfl (by kernel_rfl) H3.out (nums_size _ _ _ N_.out) ?_) | ((with_reducible refine gate_dst (N := 11) rfl ?_); refine goesL_ (some 11) rfl rfl Try.func45 (by kernel_rfl) rfl #[.agg (nums .i64 a0).toArray, v8] rfl (by (try simp only [List.map_toArray, List.map_cons, List.map_nil]); first | done | rfl) ?_; refine (impl_Root_put.calls a0 N_.out _ v8 _ _ w w3 HB3.out O3.out HPT.out).mono ?_; rintro e_ w4 ⟨rfl, R_, hb_, kp_⟩; refine ⟨_, rfl, ?_⟩; have O4 := Aside0.mk R_; have HB4 := Aside0.mk hb_; clear R_ hb_ kp_ O3 HB3))
    go_ret2
    exact ⟨_, rfl, Kd.R_mono O4.out (fun _ _ => trivial), HB4.out⟩
  · rw [if_neg hgood] at h
    simp only [Option.some.injEq, Prod.mk.injEq] at h
    obtain ⟨rfl, rfl⟩ := h
    have HG := Aside0.mk (show impl_Root_right.f a0 = some false by rw [show false = rootGood a0 by simpa using hgood]; rfl)
    clear hgood
    go_enter Try.func13, Try.ntmps13
    go_wp2_with (first | ((with_reducible refine gate_dst (N := 1) rfl ?_); refine hx_box rfl 1 rfl 28 (.tmp 0) rfl Sz0 (.agg (nums .i64 a0).toArray) (nums .i64 a0).toArray rfl rfl ?_; intro w1 s1 L1 Sz1 b1 g_; have H0 := Aside0.mk g_; have HB1 := Aside0.mk (below_then HB0.out HB0.out.size b1); clear g_ HB0 b1) | ((with_reducible refine gate_dst (N := 5) rfl ?_); refine hx_load rfl 28 (.tmp 1) rfl s0 15 rfl Try.underlying28 rfl (by kernel_rfl) H0.out (nums_size _ _ _ N_.out) ?_) | ((with_reducible refine gate_dst (N := 6) rfl ?_); refine goesL_ (some 6) rfl rfl Try.func44 (by kernel_rfl) rfl #[.agg (nums .i64 a0).toArray] rfl (by (try simp only [List.map_toArray, List.map_cons, List.map_nil]); first | done | rfl) ?_; refine (impl_Root_right.calls a0 N_.out false _ HG.out).mono ?_; rintro e_ w2 ⟨rfl, b_⟩; refine ⟨_, rfl, ?_⟩; have HB2 := Aside0.mk (below_then HB1.out HB1.out.size b_); have H2 := Aside0.mk (blk_below H0.out b_); clear b_ HB1 H0))
    go_ret2
    exact ⟨_, rfl, Kd.R_nil _ _ _ _ _, HB2.out⟩

end Go.Proofs.Ytkghgjehjchajaa.PFnExactDecodeRoot
