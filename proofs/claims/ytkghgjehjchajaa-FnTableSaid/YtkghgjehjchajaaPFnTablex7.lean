-- Written by a program of this session (patch_print.py over the kit print)
import Derived.Test.YtkghgjehjchajaaPFnTablex0
import Derived.Test.YtkghgjehjchajaaPFnTablex5
import Derived.Test.YtkghgjehjchajaaPFnTablex6
namespace Go.Proofs.Ytkghgjehjchajaa.PFnTable
open Go.RowKit Go.Proofs.YtkghgjehjchajaaW.PrintWords Go.Proofs.YtkghgjehjchajaaW.PrintLast Go.Proofs.YtkghgjehjchajaaW.PrintMore
attribute [local go_sem] max2_int min2_int max_two min_two max_three min_three max_four min_four   -- for this text's walks alone
set_option linter.unusedVariables false
set_option linter.unusedSimpArgs false

open Go.Proofs.YtkghgjehjchajaaW Go.Proofs.YtkghgjehjchajaaW.PrintHand Go.Proofs.YtkghgjehjchajaaW.PrintHx
/-! ### impl_EncodeInode: function 23 -/
open Go.Proofs.YtkghgjehjchajaaW.PrintLe Go.Proofs.YtkghgjehjchajaaW.PrintRaw
theorem made_u8 (n : Nat) : madeCells (Value.int .u8 0).cells (n * 1) = (nums .u8 (List.replicate n 0)).toArray := by
  apply Array.ext
  · simp [madeCells, nums]
  · intro i h1 h2
    simp [madeCells, nums, Value.cells, Nat.mod_one]
theorem make_u8 {P : Program} {o : Oper} {a : Act} {w : World} (t e n : Nat) (x y : Operand) (ho : o.op = .makeSlice t x y) (hx : a.eval x = .int .i64 (n : Int)) (hy : a.eval y = .int .i64 (n : Int)) (ht : P.underlying t = some (.slice e)) (hinfo : (P.info? e).map (fun i => (i.zero, i.size, i.bytes)) = some (some (.int .u8 0), 1, 1)) (hn : n ≤ 1048576) :
    (execOp a.eval o).run P w = .ok (.value (.slice (some ⟨w.heap.size, 0, none⟩) n n)) (w.alloc (.cells (nums .u8 (List.replicate n 0)).toArray e)) := by
  obtain ⟨i0, hi, hzz⟩ := Option.map_eq_some_iff.1 hinfo
  simp only [Prod.mk.injEq] at hzz
  obtain ⟨hz0, hz1, hz2⟩ := hzz
  have hr := run_make (P := P) w t e i0 (.int .u8 0) ht hi hz0 .i64 .i64 (n : Int) (n : Int) (by omega) (by omega)
    (by
      have h3 : ((i0.bytes * n : Nat) : Int) ≤ 281474976710656 := by rw [hz2]; omega
      rwa [Int.natCast_mul] at h3) (by omega)
  simp only [Int.toNat_natCast] at hr
  rw [hz1, made_u8] at hr
  simp [execOp, ho, hx, hy, hr]
set_option maxHeartbeats 8000000 in
set_option maxRecDepth 100000 in
/-- put, on a block of bytes (the slice may begin inside it) -/
theorem impl_put_int.raw (g off n cap at_ size : Nat) (L : List Int) (v : Int) (w : World) (hg : w.heap[g]? = some (.cells (nums .u8 L).toArray 5 (0, 0))) (hn : off + n ≤ L.length) (hat : at_ + size ≤ n) (h8 : size ≤ 8) (hL : L.length ≤ 1048576) :
    Calls Try.prog 53 #[.slice (some ⟨g, off, none⟩) n cap, .int .i64 (at_ : Int), .int .i64 (size : Int), .int .i64 v] w fun e w' => e = .returned (.tuple #[]) ∧ MT g w w' ∧ w'.heap[g]? = some (.cells (nums .u8 (L.take (off + at_) ++ leB v size ++ L.drop (off + at_ + size))).toArray 5 (0, 0)) := by
  have HG := Aside0.mk hg
  have HN := Aside0.mk hn
  have HAT := Aside0.mk hat
  have H8 := Aside0.mk h8
  have HL := Aside0.mk hL
  clear hg hn hat h8 hL
  go_enter Try.func53, Try.ntmps53
  go_wp2
  go_loopw [8, 10] (fun v8 v10 wr => ∃ (j : Nat) (u : Value), u = v8 ∧ v10 = .int .i64 (j : Int) ∧ Aside0 (j ≤ size) ∧ Aside0 (MT g w wr) ∧ Aside0 (wr.heap[g]? = some (.cells (nums .u8 (L.take (off + at_) ++ leB v j ++ L.drop (off + at_ + j))).toArray 5 (0, 0)))) (fun _ v10 _ => size - (intOf v10).toNat)
  case atStart => exact ⟨0, _, rfl, rfl, ⟨Nat.zero_le _⟩, ⟨MT.refl _ _⟩, ⟨by simpa [leB] using HG.out⟩⟩
  case round =>
    obtain ⟨j, v8, rfl, rfl, hj, HM, HC⟩ := hrel
    by_cases c9 : j < size
    · have c9b0 : decide ((j : Int) < (size : Int)) = true := decide_eq_true (by omega)
      have c9b1 : decide (j < size) = true := decide_eq_true c9
      have hs8 := H8.out
      have hat2 := HAT.out
      have hn2 := HN.out
      have hl2 := HL.out
      have e1 : wrap64 ((at_ : Int) + (j : Int)) = ((at_ + j : Nat) : Int) := by unfold wrap64; omega
      have e2 : wrap64 (8 * (j : Int)) = ((8 * j : Nat) : Int) := by unfold wrap64; omega
      have q1 : (0 ≤ wrap64 ((at_ : Int) + (j : Int))) = True := eq_true (by rw [e1]; omega)
      have q2 : (wrap64 ((at_ : Int) + (j : Int)) < (n : Int)) = True := eq_true (by rw [e1]; omega)
      have q3 : (0 ≤ wrap64 (8 * (j : Int))) = True := eq_true (by rw [e2]; omega)
      have q4 : (wrap64 (8 * (j : Int)) < 0) = False := eq_false (by rw [e2]; omega)
      have q5 : decide (wrap64 (8 * (j : Int)) < 0) = false := decide_eq_false (by rw [e2]; omega)
      obtain ⟨M, hM⟩ : ∃ M, M = L.take (off + at_) ++ leB v j ++ L.drop (off + at_ + j) := ⟨_, rfl⟩
      have hml : M.length = L.length := by rw [hM, List.length_append, List.length_append, List.length_take, List.length_drop, leB_length]; omega
      have hc := HC.out
      rw [← hM] at hc
      have HC2 := Aside0.mk hc
      have HML := Aside0.mk (show off + (at_ + j) < M.length by rw [hml]; omega)
      have HMM := Aside0.mk hM
      have C9 := Aside0.mk c9
      have E1 := Aside0.mk e1
      have E2 := Aside0.mk e2
      clear hs8 hat2 hn2 hl2 hM hml hc HC c9 e1 e2
      go_wp2_with (first | ((with_reducible refine gate_store (t := 5) (p := 23) (v := .tmp 22) rfl ?_); refine st_num rfl rfl 5 (.tmp 23) (.tmp 22) rfl g (off + (at_ + j)) .u8 _ (by rw [E1.out]; rfl) rfl (by kernel_rfl) HC2.out HML.out ?_; intro w2 t2 g2))
      go_roundw
      case rel =>
        refine ⟨j + 1, _, rfl, by rw [show wrap64 ((j : Int) + 1) = ((j + 1 : Nat) : Int) by (have := C9.out; have := H8.out; unfold wrap64; omega)], ⟨by have := C9.out; omega⟩, ⟨HM.out.touch t2⟩, ⟨?_⟩⟩
        have hs8 := H8.out
        have hj2 := C9.out
        have hn2 := HN.out
        have ha2 := HAT.out
        have h_ := g2
        rw [byte_at v j (by omega), show off + (at_ + j) = (off + at_) + j by omega, set_next (p := off + at_) HMM.out (by omega), show off + at_ + (j + 1) = off + at_ + j + 1 by omega] at h_
        rw [show off + at_ + (j + 1) = off + at_ + j + 1 by omega]
        exact h_
      case measure =>
        rw [show wrap64 ((j : Int) + 1) = ((j + 1 : Nat) : Int) by (have := C9.out; have := H8.out; unfold wrap64; omega)]
        simp only [intOf, Int.toNat_natCast]
        have := C9.out
        omega
    · obtain rfl : j = size := by have := hj.out; omega
      have c9b0 : decide ((j : Int) < (j : Int)) = false := decide_eq_false (by omega)
      have c9b1 : decide (j < j) = false := decide_eq_false (by omega)
      clear c9
      go_wp2
      refine Go.Great.bodyPost_end0 rfl rfl ⟨rfl, HM.out, HC.out⟩
theorem impl_Root_put.rstep (s : Int) (xs L : List Int) (off j : Nat) (hx : xs.length = 14) (hj : j < 14) (hl : off + 64 ≤ L.length) (p : Int) (hp : p = xs.getD j 0) :
    let ls := L.take off ++ leB s 8 ++ flat4 (xs.take j) ++ L.drop (off + 8 + 4 * j)
    ls.take (off + (8 + 4 * j)) ++ leB p 4 ++ ls.drop (off + (8 + 4 * j) + 4) = L.take off ++ leB s 8 ++ flat4 (xs.take (j + 1)) ++ L.drop (off + 8 + 4 * (j + 1)) := by
  intro ls
  have h1 : (L.take off ++ leB s 8 ++ flat4 (xs.take j)).length = off + (8 + 4 * j) := by
    rw [List.length_append, List.length_append, leB_length, flat4_length, List.length_take, List.length_take, hx, Nat.min_eq_left (by omega), Nat.min_eq_left (by omega)]
    omega
  have e1 : ls.take (off + (8 + 4 * j)) = L.take off ++ leB s 8 ++ flat4 (xs.take j) := by rw [← h1]; exact List.take_left
  have e2 : ls.drop (off + (8 + 4 * j) + 4) = L.drop (off + 8 + 4 * (j + 1)) := by
    show (L.take off ++ leB s 8 ++ flat4 (xs.take j) ++ L.drop (off + 8 + 4 * j)).drop (off + (8 + 4 * j) + 4) = _
    rw [List.drop_append, h1, List.drop_eq_nil_of_le (by rw [h1]; omega), List.nil_append, List.drop_drop]
    congr 1
    omega
  rw [e1, e2, flat4_take xs j (by omega), hp, List.append_assoc (L.take off ++ leB s 8)]
theorem impl_Root_put.rlen (s : Int) (xs L : List Int) (off j : Nat) (hx : xs.length = 14) (hj : j < 14) (hl : off + 64 ≤ L.length) : (L.take off ++ leB s 8 ++ flat4 (xs.take j) ++ L.drop (off + 8 + 4 * j)).length = L.length := by
  rw [List.length_append, List.length_append, List.length_append, leB_length, flat4_length, List.length_take, List.length_take, hx, Nat.min_eq_left (by omega), Nat.min_eq_left (by omega), List.length_drop]
  omega
set_option maxHeartbeats 8000000 in
set_option maxRecDepth 100000 in
/-- Root.put, on a block of bytes (the slice may begin inside it) -/
theorem impl_Root_put.raw (a0 : List Int) (n0 : a0.length = 15) (hgood : rootGood a0 = true) (g off n cap : Nat) (L : List Int) (w : World) (hg : w.heap[g]? = some (.cells (nums .u8 L).toArray 5 (0, 0))) (hn : off + n ≤ L.length) (h64 : 64 ≤ n) (hL : L.length ≤ 1048576) :
    Calls Try.prog 45 #[.agg (nums .i64 a0).toArray, .slice (some ⟨g, off, none⟩) n cap] w fun e w' => e = .returned (.tuple #[]) ∧ MT g w w' ∧ w'.heap[g]? = some (.cells (nums .u8 (L.take off ++ rootBytes a0 ++ L.drop (off + 64))).toArray 5 (0, 0)) := by
  have N_ := Aside0.mk n0
  have HG := Aside0.mk hgood
  have HN := Aside0.mk hn
  have H64 := Aside0.mk h64
  have HL := Aside0.mk hL
  have HC0 := Aside0.mk hg
  have hgl := blk_lt hg
  have HGL := Aside0.mk hgl
  clear n0 hgood hn h64 hL hg
  obtain ⟨s, hs⟩ : ∃ s, s = a0.getD 0 0 := ⟨_, rfl⟩
  have HS := Aside0.mk hs
  clear hs
  obtain ⟨xs, hxs⟩ : ∃ xs, xs = seg a0 1 14 := ⟨_, rfl⟩
  have HP := Aside0.mk (show impl_Root_pointers.f a0 = some xs by rw [hxs]; exact if_pos N_.out)
  have HXL := Aside0.mk (show xs.length = 14 by rw [hxs]; exact part_len (n := 15) N_.out (by decide))
  have HXS := Aside0.mk hxs
  clear hxs
  have hu28 := Try.underlying28
  have HB0 : Aside0 (Below w.heap.size w w) := ⟨Below.refl _ _⟩
  obtain ⟨s0, Sz0⟩ : ∃ s0, Aside0 (w.heap.size = s0) := ⟨_, ⟨rfl⟩⟩
  have hw0 : w.heap.size ≤ s0 := Nat.le_of_eq Sz0.out
  have hw1 : s0 ≤ w.heap.size := Nat.le_of_eq Sz0.out.symm
  have hgs : g < s0 := by omega
  clear hgl
  go_enter Try.func45, Try.ntmps45
  go_wp2_with (first | ((with_reducible refine gate_dst (N := 2) rfl ?_); refine hx_box rfl 2 rfl 28 (.tmp 0) rfl Sz0 (.agg (nums .i64 a0).toArray) (nums .i64 a0).toArray rfl rfl ?_; intro w1 s1 L1 Sz1 b1 g_; have H1 := Aside0.mk g_; have HC1 := Aside0.mk (blk_below HC0.out b1); have M1 := Aside0.mk (MT.of_below (g := g) b1); clear g_ b1 HB0 HC0) | ((with_reducible refine gate_dst (N := 8) rfl ?_); refine hx_loadf rfl 3 (.tmp 7) rfl s0 0 rfl Try.underlying3 rfl H1.out (lt_len (n := 15) N_.out (by decide)) ?_; rw [← HS.out]) | ((with_reducible refine gate_dst (N := 9) rfl ?_); refine goesL_ (some 9) rfl rfl Try.func53 (by kernel_rfl) rfl #[.slice (some ⟨g, off, none⟩) n cap, .int .i64 0, .int .i64 8, .int .i64 s] rfl (by (try simp only [List.map_toArray, List.map_cons, List.map_nil]); first | done | rfl) ?_; refine (impl_put_int.raw g off n cap 0 8 L s w1 HC1.out HN.out (by have := H64.out; omega) (by decide) HL.out).mono ?_; rintro e_ w2 ⟨rfl, m_, g_⟩; refine ⟨_, rfl, ?_⟩; have H2 := Aside0.mk (m_.blk (show s0 ≠ g by omega) H1.out); have HC2 := Aside0.mk g_; have M2 := Aside0.mk (M1.out.trans m_); obtain ⟨s2, L2, Sz2⟩ := size_letter Sz1 m_.kept; clear m_ g_ H1 HC1 M1) | ((with_reducible refine gate_dst (N := 10) rfl ?_); refine hx_load rfl 28 (.tmp 2) rfl s0 15 rfl Try.underlying28 rfl (by kernel_rfl) H2.out (nums_size _ _ _ N_.out) ?_) | ((with_reducible refine gate_dst (N := 11) rfl ?_); refine goesL_ (some 11) rfl rfl Try.func72 (by kernel_rfl) rfl #[.agg (nums .i64 a0).toArray] rfl (by (try simp only [List.map_toArray, List.map_cons, List.map_nil]); first | done | rfl) ?_; refine (impl_Root_pointers.calls a0 N_.out xs _ HP.out).mono ?_; rintro e_ w3 ⟨v0_, rfl, R_, b_⟩; obtain ⟨A11, c11, rfl⟩ := Kd.R_slice R_; refine ⟨_, rfl, ?_⟩; obtain ⟨s3, L3, Sz3⟩ := size_letter Sz2 (kept_below b_); have OP := own_btw (B := 0) R_ Sz2.out Sz3 (Nat.zero_le _); have HC3 := Aside0.mk (blk_below HC2.out b_); have M3 := Aside0.mk (M2.out.then_ b_); clear R_ b_ HC2 M2 H2))
  (try simp only [Act.put, List.setIfInBounds_toArray, List.set_cons_succ, List.set_cons_zero])
  go_loopw [4, 5, 13] (fun v4 v5 v13 wr => ∃ (j : Nat) (u4 u5 : Value), u4 = v4 ∧ u5 = v5 ∧ v13 = .int .i64 (j : Int) ∧ Aside0 (j ≤ 14) ∧ Aside0 (wr.heap[g]? = some (.cells (nums .u8 (L.take off ++ leB s 8 ++ flat4 (xs.take j) ++ L.drop (off + 8 + 4 * j))).toArray 5 (0, 0))) ∧ Aside0 (Kd.R (Kd.int .i64) 3 wr 0 (Btw s2 s3) (.slice A11 xs.length c11) xs) ∧ Aside0 (MT g w wr)) (fun _ _ v13 _ => 14 - (intOf v13).toNat)
  case atStart => exact ⟨0, _, _, rfl, rfl, rfl, ⟨by omega⟩, ⟨by have := HC3.out; simpa [flat4] using this⟩, OP, M3⟩
  case round =>
    clear HC3 OP M3
    obtain ⟨j, v4, v5, rfl, rfl, rfl, hj, HC, OP, HM⟩ := hrel
    by_cases c9 : j < 14
    · have c9b0 : decide ((j : Int) < (xs.length : Int)) = true := decide_eq_true (by rw [HXL.out]; omega)
      have c9b1 : decide (j < xs.length) = true := decide_eq_true (by rw [HXL.out]; omega)
      have p112 : 0 ≤ (j : Int) := by omega
      have q112 : (j : Int) < (xs.length : Int) := by rw [HXL.out]; omega
      obtain ⟨ad112, e112, hx112⟩ := Kd.at_int (Kd.R_reads' OP.out).2.2 (j : Int) p112 q112
      cases e112
      rw [Int.toNat_natCast] at hx112
      replace p112 := eq_true p112
      replace q112 := eq_true q112
      have q113 : (j < xs.length) = True := eq_true (by rw [HXL.out]; omega)
      obtain ⟨p, hp⟩ : ∃ p, p = rd xs (j : Int) := ⟨_, rfl⟩
      rw [← hp] at hx112
      have HPV := Aside0.mk (show p = xs.getD j 0 by rw [hp, rd, Int.toNat_natCast])
      obtain ⟨ls, hls⟩ : ∃ ls, ls = L.take off ++ leB s 8 ++ flat4 (xs.take j) ++ L.drop (off + 8 + 4 * j) := ⟨_, rfl⟩
      have HLL := Aside0.mk (show ls.length = L.length by rw [hls]; exact impl_Root_put.rlen s xs L off j HXL.out c9 (by have h1_ := HN.out; have h2_ := H64.out; omega))
      have HAT := Aside0.mk (impl_Root_put.at_ j c9)
      have hc := HC.out
      rw [← hls] at hc
      have HC4 := Aside0.mk hc
      have HLS := Aside0.mk hls
      have C9 := Aside0.mk c9
      clear hp c9 hls hc HC
      go_wp2_with (first | ((with_reducible refine gate_dst (N := 23) rfl ?_); refine goesL_ (some 23) rfl rfl Try.func53 (by kernel_rfl) rfl #[.slice (some ⟨g, off, none⟩) n cap, .int .i64 ((8 + 4 * j : Nat) : Int), .int .i64 4, .int .i64 p] rfl (by (try simp only [List.map_toArray, List.map_cons, List.map_nil]); first | done | rfl | (rw [← HAT.out]; rfl)) ?_; refine (impl_put_int.raw g off n cap (8 + 4 * j) 4 ls p _ HC4.out (by rw [HLL.out]; exact HN.out) (by have h1_ := H64.out; have h2_ := C9.out; omega) (by decide) (by rw [HLL.out]; exact HL.out)).mono ?_; rintro e_ w4 ⟨rfl, m_, g_⟩; refine ⟨_, rfl, ?_⟩; have HC5 := Aside0.mk g_; have M5 := Aside0.mk (HM.out.trans m_); have OP5 := Aside0.mk (m_.R OP.out (fun k hk => by have h1_ := hk.1; omega)); clear m_ g_ HC4 HM OP))
      go_roundw
      case rel =>
        refine ⟨j + 1, _, _, rfl, rfl, by rw [show wrap64 ((j : Int) + 1) = ((j + 1 : Nat) : Int) by (have := C9.out; unfold wrap64; omega)], ⟨by have := C9.out; omega⟩, ⟨?_⟩, OP5, M5⟩
        have ho := HC5.out
        have e_ := impl_Root_put.rstep s xs L off j HXL.out C9.out (by have h1_ := HN.out; have h2_ := H64.out; omega) p HPV.out
        simp only [] at e_
        rw [← HLS.out] at e_
        rw [e_] at ho
        exact ho
      case measure =>
        rw [show wrap64 ((j : Int) + 1) = ((j + 1 : Nat) : Int) by (have := C9.out; unfold wrap64; omega)]
        simp only [intOf, Int.toNat_natCast]
        have := C9.out
        omega
    · obtain rfl : j = 14 := by have := hj.out; omega
      have c9b0 : decide ((14 : Int) < (xs.length : Int)) = false := decide_eq_false (by rw [HXL.out]; decide)
      have c9b1 : decide (14 < xs.length) = false := decide_eq_false (by rw [HXL.out]; decide)
      go_wp2
      have ho := HC.out
      rw [show xs.take 14 = xs from List.take_of_length_le (by rw [HXL.out]; exact Nat.le_refl _), HXS.out, HS.out, List.append_assoc (L.take off)] at ho
      refine Go.Great.bodyPost_end0 rfl rfl ⟨rfl, HM.out, ho⟩
open Go.Proofs.YtkghgjehjchajaaW.PrintIno
def impl_EncodeInode.f (a0 : List Int) : Option (List Int × Int) := some (if inodeGood a0 = true then (inodeBytes a0, 0) else ([], 7))
set_option maxHeartbeats 8000000 in
set_option maxRecDepth 100000 in
theorem impl_EncodeInode.calls (a0 : List Int) (n0 : a0.length = 24) (r1 : List Int) (r2 : Int) (w : World) (h : impl_EncodeInode.f a0 = some (r1, r2)) :
    Calls Try.prog 23 #[.agg (nums .i64 a0).toArray] w fun e w' => ∃ v0_ : Value, e = .returned (.tuple #[v0_, .int .i64 r2]) ∧ Kd.R (Kd.int .u8) 5 w' w.heap.size (fun _ => True) v0_ r1 ∧ Below w.heap.size w w' := by
  unfold impl_EncodeInode.f at h
  have hbl := inodeBytes_length n0
  have N_ := Aside0.mk n0
  clear n0
  have HB0 : Aside0 (Below w.heap.size w w) := ⟨Below.refl _ _⟩
  obtain ⟨s0, Sz0⟩ : ∃ s0, Aside0 (w.heap.size = s0) := ⟨_, ⟨rfl⟩⟩
  have hw0 : w.heap.size ≤ s0 := Nat.le_of_eq Sz0.out
  have hw1 : s0 ≤ w.heap.size := Nat.le_of_eq Sz0.out.symm
  by_cases hgood : inodeGood a0 = true
  case neg =>
    rw [if_neg hgood] at h
    simp only [Option.some.injEq, Prod.mk.injEq] at h
    obtain ⟨rfl, rfl⟩ := h
    have HG := Aside0.mk (show impl_Inode_right.f a0 = some false by rw [show false = inodeGood a0 by simpa using hgood]; rfl)
    clear hgood hbl
    go_enter Try.func23, Try.ntmps23
    go_wp2_with (first | ((with_reducible refine gate_dst (N := 1) rfl ?_); refine hx_box rfl 1 rfl 42 (.tmp 0) rfl Sz0 (.agg (nums .i64 a0).toArray) (nums .i64 a0).toArray rfl rfl ?_; intro w1 s1 L1 Sz1 b1 g_; have H_1 := Aside0.mk g_; have HB1 := Aside0.mk (below_then HB0.out HB0.out.size b1); clear g_ HB0 b1) | ((with_reducible refine gate_dst (N := 5) rfl ?_); refine hx_load rfl 42 (.tmp 1) rfl s0 24 rfl Try.underlying42 rfl (by kernel_rfl) H_1.out (nums_size _ _ _ N_.out) ?_) | ((with_reducible refine gate_dst (N := 6) rfl ?_); refine goesL_ (some 6) rfl rfl Try.func52 (by kernel_rfl) rfl #[.agg (nums .i64 a0).toArray] rfl (by (try simp only [List.map_toArray, List.map_cons, List.map_nil]); first | done | rfl) ?_; refine (impl_Inode_right.calls a0 N_.out false _ HG.out).mono ?_; rintro e_ w2 ⟨rfl, b_⟩; refine ⟨_, rfl, ?_⟩; have HB2 := Aside0.mk (below_then HB1.out HB1.out.size b_); have H_2 := Aside0.mk (blk_below H_1.out b_); obtain ⟨s2, L2, Sz2⟩ := size_letter Sz1 (kept_below b_); clear b_ HB1 H_1))
    go_ret2
    exact ⟨_, rfl, Kd.R_nil _ _ _ _ _, HB2.out⟩
  rw [if_pos hgood] at h
  simp only [Option.some.injEq, Prod.mk.injEq] at h
  obtain ⟨rfl, rfl⟩ := h
  have HG := Aside0.mk (show impl_Inode_right.f a0 = some true by rw [← hgood]; rfl)
  obtain ⟨g0, g1, g2, g3, g4, g5, g6, g7, g8, g9⟩ := inodeGood_get hgood
  have info5_ : (Try.prog.info? 5).map (fun i => (i.zero, i.size, i.bytes)) = some (some (.int .u8 0), 1, 1) := by kernel_rfl
  clear hgood
  obtain ⟨x0, hx0⟩ : ∃ x, x = a0.getD 0 0 := ⟨_, rfl⟩
  obtain ⟨x1, hx1⟩ : ∃ x, x = a0.getD 1 0 := ⟨_, rfl⟩
  obtain ⟨x2, hx2⟩ : ∃ x, x = a0.getD 2 0 := ⟨_, rfl⟩
  obtain ⟨x3, hx3⟩ : ∃ x, x = a0.getD 3 0 := ⟨_, rfl⟩
  obtain ⟨x4, hx4⟩ : ∃ x, x = a0.getD 4 0 := ⟨_, rfl⟩
  obtain ⟨x5, hx5⟩ : ∃ x, x = a0.getD 5 0 := ⟨_, rfl⟩
  obtain ⟨x6, hx6⟩ : ∃ x, x = a0.getD 6 0 := ⟨_, rfl⟩
  obtain ⟨x7, hx7⟩ : ∃ x, x = a0.getD 7 0 := ⟨_, rfl⟩
  obtain ⟨x8, hx8⟩ : ∃ x, x = a0.getD 8 0 := ⟨_, rfl⟩
  obtain ⟨xr, hxr⟩ : ∃ x, x = seg a0 9 15 := ⟨_, rfl⟩
  have NR := Aside0.mk (show xr.length = 15 by rw [hxr]; exact part_len N_.out (by decide))
  have G9 := Aside0.mk (show rootGood xr = true by rw [hxr]; exact g9)
  have GX := Aside0.mk (show 0 ≤ x0 ∧ x0 ≤ 255 by rw [hx0]; omega)
  have HIB := Aside0.mk (show inodeBytes a0 = ([leB x0 2, leB x1 2, leB x2 2, leB x3 2, leB x4 2, leB 0 2, leB x5 4, leB x6 8, leB x7 8, leB x8 8, rootBytes xr] : List (List Int)).flatten ++ List.replicate 24 0 by unfold inodeBytes inoParts; rw [← hx0, ← hx1, ← hx2, ← hx3, ← hx4, ← hx5, ← hx6, ← hx7, ← hx8, ← hxr])
  have HBL := Aside0.mk hbl
  have X0 := Aside0.mk hx0
  have X1 := Aside0.mk hx1
  have X2 := Aside0.mk hx2
  have X3 := Aside0.mk hx3
  have X4 := Aside0.mk hx4
  have X5 := Aside0.mk hx5
  have X6 := Aside0.mk hx6
  have X7 := Aside0.mk hx7
  have X8 := Aside0.mk hx8
  have XR := Aside0.mk hxr
  clear hx0 hx1 hx2 hx3 hx4 hx5 hx6 hx7 hx8 hxr hbl g0 g1 g2 g3 g4 g5 g6 g7 g8 g9
  go_enter Try.func23, Try.ntmps23
  go_wp2_with (first | ((with_reducible refine gate_dst (N := 1) rfl ?_); refine hx_box rfl 1 rfl 42 (.tmp 0) rfl Sz0 (.agg (nums .i64 a0).toArray) (nums .i64 a0).toArray rfl rfl ?_; intro w1 s1 L1 Sz1 b1 g_; have H_1 := Aside0.mk g_; have HB1 := Aside0.mk (below_then HB0.out HB0.out.size b1); clear g_ HB0 b1) | ((with_reducible refine gate_dst (N := 5) rfl ?_); refine hx_load rfl 42 (.tmp 1) rfl s0 24 rfl Try.underlying42 rfl (by kernel_rfl) H_1.out (nums_size _ _ _ N_.out) ?_) | ((with_reducible refine gate_dst (N := 6) rfl ?_); refine goesL_ (some 6) rfl rfl Try.func52 (by kernel_rfl) rfl #[.agg (nums .i64 a0).toArray] rfl (by (try simp only [List.map_toArray, List.map_cons, List.map_nil]); first | done | rfl) ?_; refine (impl_Inode_right.calls a0 N_.out true _ HG.out).mono ?_; rintro e_ w2 ⟨rfl, b_⟩; refine ⟨_, rfl, ?_⟩; have HB2 := Aside0.mk (below_then HB1.out HB1.out.size b_); have H_2 := Aside0.mk (blk_below H_1.out b_); obtain ⟨s2, L2, Sz2⟩ := size_letter Sz1 (kept_below b_); clear b_ HB1 H_1) | ((with_reducible refine gate_dst (N := 8) rfl ?_); refine make_num rfl (N := 8) rfl 128 5 .u8 Sz2 ?hr ?_; (case hr => exact make_u8 25 5 128 _ _ rfl rfl rfl Try.underlying25 info5_ (by decide)); intro w3 s3 L3 Sz3 b_ g_; have HB3 := Aside0.mk (below_then HB2.out HB2.out.size b_); have H_3 := Aside0.mk (blk_below H_2.out b_); obtain ⟨Q0, hq0⟩ : ∃ Q, Q = List.replicate 128 (0 : Int) := ⟨_, rfl⟩; rw [← hq0] at g_; have HC_3 := Aside0.mk g_; have E0 := Aside0.mk hq0; have N0 := Aside0.mk (show Q0.length = 128 by rw [hq0]; simp); have M_3 := Aside0.mk (MT.refl s2 w3); clear b_ g_ hq0 HB2 H_2) | ((with_reducible refine gate_dst (N := 11) rfl ?_); refine hx_loadf rfl 3 (.tmp 10) rfl s0 0 rfl Try.underlying3 rfl H_3.out (lt_len (n := 24) N_.out (by decide)) ?_; rw [← X0.out]) | ((with_reducible refine gate_dst (N := 12) rfl ?_); refine goesL_ (some 12) rfl rfl Try.func53 (by kernel_rfl) rfl #[.slice (some ⟨s2, 0, none⟩) 128 128, .int .i64 0, .int .i64 1, .int .i64 x0] rfl (by (try simp only [List.map_toArray, List.map_cons, List.map_nil]); first | done | rfl) ?_; refine (impl_put_int.raw s2 0 128 128 0 1 Q0 x0 w3 HC_3.out (by rw [N0.out]; decide) (by decide) (by decide) (by rw [N0.out]; decide)).mono ?_; rintro e_ w4 ⟨rfl, m_, g_⟩; refine ⟨_, rfl, ?_⟩; obtain ⟨Q1, hq_⟩ : ∃ Q, Q = Q0.take (0 + 0) ++ leB x0 1 ++ Q0.drop (0 + 0 + 1) := ⟨_, rfl⟩; rw [← hq_] at g_; have N1 := Aside0.mk (show Q1.length = 128 by rw [hq_, List.length_append, List.length_append, List.length_take, List.length_drop, leB_length, N0.out]; decide); have E1 := Aside0.mk hq_; have HC_4 := Aside0.mk g_; have H_4 := Aside0.mk (m_.blk (show s0 ≠ s2 by omega) H_3.out); have M_4 := Aside0.mk (M_3.out.trans m_); clear m_ g_ hq_ HC_3 H_3 M_3) | ((with_reducible refine gate_dst (N := 15) rfl ?_); refine hx_loadf rfl 3 (.tmp 14) rfl s0 1 rfl Try.underlying3 rfl H_4.out (lt_len (n := 24) N_.out (by decide)) ?_; rw [← X1.out]) | ((with_reducible refine gate_dst (N := 16) rfl ?_); refine goesL_ (some 16) rfl rfl Try.func53 (by kernel_rfl) rfl #[.slice (some ⟨s2, 0, none⟩) 128 128, .int .i64 2, .int .i64 2, .int .i64 x1] rfl (by (try simp only [List.map_toArray, List.map_cons, List.map_nil]); first | done | rfl) ?_; refine (impl_put_int.raw s2 0 128 128 2 2 Q1 x1 w4 HC_4.out (by rw [N1.out]; decide) (by decide) (by decide) (by rw [N1.out]; decide)).mono ?_; rintro e_ w5 ⟨rfl, m_, g_⟩; refine ⟨_, rfl, ?_⟩; obtain ⟨Q2, hq_⟩ : ∃ Q, Q = Q1.take (0 + 2) ++ leB x1 2 ++ Q1.drop (0 + 2 + 2) := ⟨_, rfl⟩; rw [← hq_] at g_; have N2 := Aside0.mk (show Q2.length = 128 by rw [hq_, List.length_append, List.length_append, List.length_take, List.length_drop, leB_length, N1.out]; decide); have E2 := Aside0.mk hq_; have HC_5 := Aside0.mk g_; have H_5 := Aside0.mk (m_.blk (show s0 ≠ s2 by omega) H_4.out); have M_5 := Aside0.mk (M_4.out.trans m_); clear m_ g_ hq_ HC_4 H_4 M_4) | ((with_reducible refine gate_dst (N := 19) rfl ?_); refine hx_loadf rfl 3 (.tmp 18) rfl s0 2 rfl Try.underlying3 rfl H_5.out (lt_len (n := 24) N_.out (by decide)) ?_; rw [← X2.out]) | ((with_reducible refine gate_dst (N := 20) rfl ?_); refine goesL_ (some 20) rfl rfl Try.func53 (by kernel_rfl) rfl #[.slice (some ⟨s2, 0, none⟩) 128 128, .int .i64 4, .int .i64 2, .int .i64 x2] rfl (by (try simp only [List.map_toArray, List.map_cons, List.map_nil]); first | done | rfl) ?_; refine (impl_put_int.raw s2 0 128 128 4 2 Q2 x2 w5 HC_5.out (by rw [N2.out]; decide) (by decide) (by decide) (by rw [N2.out]; decide)).mono ?_; rintro e_ w6 ⟨rfl, m_, g_⟩; refine ⟨_, rfl, ?_⟩; obtain ⟨Q3, hq_⟩ : ∃ Q, Q = Q2.take (0 + 4) ++ leB x2 2 ++ Q2.drop (0 + 4 + 2) := ⟨_, rfl⟩; rw [← hq_] at g_; have N3 := Aside0.mk (show Q3.length = 128 by rw [hq_, List.length_append, List.length_append, List.length_take, List.length_drop, leB_length, N2.out]; decide); have E3 := Aside0.mk hq_; have HC_6 := Aside0.mk g_; have H_6 := Aside0.mk (m_.blk (show s0 ≠ s2 by omega) H_5.out); have M_6 := Aside0.mk (M_5.out.trans m_); clear m_ g_ hq_ HC_5 H_5 M_5) | ((with_reducible refine gate_dst (N := 23) rfl ?_); refine hx_loadf rfl 3 (.tmp 22) rfl s0 3 rfl Try.underlying3 rfl H_6.out (lt_len (n := 24) N_.out (by decide)) ?_; rw [← X3.out]) | ((with_reducible refine gate_dst (N := 24) rfl ?_); refine goesL_ (some 24) rfl rfl Try.func53 (by kernel_rfl) rfl #[.slice (some ⟨s2, 0, none⟩) 128 128, .int .i64 6, .int .i64 2, .int .i64 x3] rfl (by (try simp only [List.map_toArray, List.map_cons, List.map_nil]); first | done | rfl) ?_; refine (impl_put_int.raw s2 0 128 128 6 2 Q3 x3 w6 HC_6.out (by rw [N3.out]; decide) (by decide) (by decide) (by rw [N3.out]; decide)).mono ?_; rintro e_ w7 ⟨rfl, m_, g_⟩; refine ⟨_, rfl, ?_⟩; obtain ⟨Q4, hq_⟩ : ∃ Q, Q = Q3.take (0 + 6) ++ leB x3 2 ++ Q3.drop (0 + 6 + 2) := ⟨_, rfl⟩; rw [← hq_] at g_; have N4 := Aside0.mk (show Q4.length = 128 by rw [hq_, List.length_append, List.length_append, List.length_take, List.length_drop, leB_length, N3.out]; decide); have E4 := Aside0.mk hq_; have HC_7 := Aside0.mk g_; have H_7 := Aside0.mk (m_.blk (show s0 ≠ s2 by omega) H_6.out); have M_7 := Aside0.mk (M_6.out.trans m_); clear m_ g_ hq_ HC_6 H_6 M_6) | ((with_reducible refine gate_dst (N := 27) rfl ?_); refine hx_loadf rfl 3 (.tmp 26) rfl s0 4 rfl Try.underlying3 rfl H_7.out (lt_len (n := 24) N_.out (by decide)) ?_; rw [← X4.out]) | ((with_reducible refine gate_dst (N := 28) rfl ?_); refine goesL_ (some 28) rfl rfl Try.func53 (by kernel_rfl) rfl #[.slice (some ⟨s2, 0, none⟩) 128 128, .int .i64 8, .int .i64 2, .int .i64 x4] rfl (by (try simp only [List.map_toArray, List.map_cons, List.map_nil]); first | done | rfl) ?_; refine (impl_put_int.raw s2 0 128 128 8 2 Q4 x4 w7 HC_7.out (by rw [N4.out]; decide) (by decide) (by decide) (by rw [N4.out]; decide)).mono ?_; rintro e_ w8 ⟨rfl, m_, g_⟩; refine ⟨_, rfl, ?_⟩; obtain ⟨Q5, hq_⟩ : ∃ Q, Q = Q4.take (0 + 8) ++ leB x4 2 ++ Q4.drop (0 + 8 + 2) := ⟨_, rfl⟩; rw [← hq_] at g_; have N5 := Aside0.mk (show Q5.length = 128 by rw [hq_, List.length_append, List.length_append, List.length_take, List.length_drop, leB_length, N4.out]; decide); have E5 := Aside0.mk hq_; have HC_8 := Aside0.mk g_; have H_8 := Aside0.mk (m_.blk (show s0 ≠ s2 by omega) H_7.out); have M_8 := Aside0.mk (M_7.out.trans m_); clear m_ g_ hq_ HC_7 H_7 M_7) | ((with_reducible refine gate_dst (N := 31) rfl ?_); refine hx_loadf rfl 3 (.tmp 30) rfl s0 5 rfl Try.underlying3 rfl H_8.out (lt_len (n := 24) N_.out (by decide)) ?_; rw [← X5.out]) | ((with_reducible refine gate_dst (N := 32) rfl ?_); refine goesL_ (some 32) rfl rfl Try.func53 (by kernel_rfl) rfl #[.slice (some ⟨s2, 0, none⟩) 128 128, .int .i64 12, .int .i64 4, .int .i64 x5] rfl (by (try simp only [List.map_toArray, List.map_cons, List.map_nil]); first | done | rfl) ?_; refine (impl_put_int.raw s2 0 128 128 12 4 Q5 x5 w8 HC_8.out (by rw [N5.out]; decide) (by decide) (by decide) (by rw [N5.out]; decide)).mono ?_; rintro e_ w9 ⟨rfl, m_, g_⟩; refine ⟨_, rfl, ?_⟩; obtain ⟨Q6, hq_⟩ : ∃ Q, Q = Q5.take (0 + 12) ++ leB x5 4 ++ Q5.drop (0 + 12 + 4) := ⟨_, rfl⟩; rw [← hq_] at g_; have N6 := Aside0.mk (show Q6.length = 128 by rw [hq_, List.length_append, List.length_append, List.length_take, List.length_drop, leB_length, N5.out]; decide); have E6 := Aside0.mk hq_; have HC_9 := Aside0.mk g_; have H_9 := Aside0.mk (m_.blk (show s0 ≠ s2 by omega) H_8.out); have M_9 := Aside0.mk (M_8.out.trans m_); clear m_ g_ hq_ HC_8 H_8 M_8) | ((with_reducible refine gate_dst (N := 35) rfl ?_); refine hx_loadf rfl 3 (.tmp 34) rfl s0 6 rfl Try.underlying3 rfl H_9.out (lt_len (n := 24) N_.out (by decide)) ?_; rw [← X6.out]) | ((with_reducible refine gate_dst (N := 36) rfl ?_); refine goesL_ (some 36) rfl rfl Try.func53 (by kernel_rfl) rfl #[.slice (some ⟨s2, 0, none⟩) 128 128, .int .i64 16, .int .i64 8, .int .i64 x6] rfl (by (try simp only [List.map_toArray, List.map_cons, List.map_nil]); first | done | rfl) ?_; refine (impl_put_int.raw s2 0 128 128 16 8 Q6 x6 w9 HC_9.out (by rw [N6.out]; decide) (by decide) (by decide) (by rw [N6.out]; decide)).mono ?_; rintro e_ w10 ⟨rfl, m_, g_⟩; refine ⟨_, rfl, ?_⟩; obtain ⟨Q7, hq_⟩ : ∃ Q, Q = Q6.take (0 + 16) ++ leB x6 8 ++ Q6.drop (0 + 16 + 8) := ⟨_, rfl⟩; rw [← hq_] at g_; have N7 := Aside0.mk (show Q7.length = 128 by rw [hq_, List.length_append, List.length_append, List.length_take, List.length_drop, leB_length, N6.out]; decide); have E7 := Aside0.mk hq_; have HC_10 := Aside0.mk g_; have H_10 := Aside0.mk (m_.blk (show s0 ≠ s2 by omega) H_9.out); have M_10 := Aside0.mk (M_9.out.trans m_); clear m_ g_ hq_ HC_9 H_9 M_9) | ((with_reducible refine gate_dst (N := 39) rfl ?_); refine hx_loadf rfl 3 (.tmp 38) rfl s0 7 rfl Try.underlying3 rfl H_10.out (lt_len (n := 24) N_.out (by decide)) ?_; rw [← X7.out]) | ((with_reducible refine gate_dst (N := 40) rfl ?_); refine goesL_ (some 40) rfl rfl Try.func53 (by kernel_rfl) rfl #[.slice (some ⟨s2, 0, none⟩) 128 128, .int .i64 24, .int .i64 8, .int .i64 x7] rfl (by (try simp only [List.map_toArray, List.map_cons, List.map_nil]); first | done | rfl) ?_; refine (impl_put_int.raw s2 0 128 128 24 8 Q7 x7 w10 HC_10.out (by rw [N7.out]; decide) (by decide) (by decide) (by rw [N7.out]; decide)).mono ?_; rintro e_ w11 ⟨rfl, m_, g_⟩; refine ⟨_, rfl, ?_⟩; obtain ⟨Q8, hq_⟩ : ∃ Q, Q = Q7.take (0 + 24) ++ leB x7 8 ++ Q7.drop (0 + 24 + 8) := ⟨_, rfl⟩; rw [← hq_] at g_; have N8 := Aside0.mk (show Q8.length = 128 by rw [hq_, List.length_append, List.length_append, List.length_take, List.length_drop, leB_length, N7.out]; decide); have E8 := Aside0.mk hq_; have HC_11 := Aside0.mk g_; have H_11 := Aside0.mk (m_.blk (show s0 ≠ s2 by omega) H_10.out); have M_11 := Aside0.mk (M_10.out.trans m_); clear m_ g_ hq_ HC_10 H_10 M_10) | ((with_reducible refine gate_dst (N := 43) rfl ?_); refine hx_loadf rfl 3 (.tmp 42) rfl s0 8 rfl Try.underlying3 rfl H_11.out (lt_len (n := 24) N_.out (by decide)) ?_; rw [← X8.out]) | ((with_reducible refine gate_dst (N := 44) rfl ?_); refine goesL_ (some 44) rfl rfl Try.func53 (by kernel_rfl) rfl #[.slice (some ⟨s2, 0, none⟩) 128 128, .int .i64 32, .int .i64 8, .int .i64 x8] rfl (by (try simp only [List.map_toArray, List.map_cons, List.map_nil]); first | done | rfl) ?_; refine (impl_put_int.raw s2 0 128 128 32 8 Q8 x8 w11 HC_11.out (by rw [N8.out]; decide) (by decide) (by decide) (by rw [N8.out]; decide)).mono ?_; rintro e_ w12 ⟨rfl, m_, g_⟩; refine ⟨_, rfl, ?_⟩; obtain ⟨Q9, hq_⟩ : ∃ Q, Q = Q8.take (0 + 32) ++ leB x8 8 ++ Q8.drop (0 + 32 + 8) := ⟨_, rfl⟩; rw [← hq_] at g_; have N9 := Aside0.mk (show Q9.length = 128 by rw [hq_, List.length_append, List.length_append, List.length_take, List.length_drop, leB_length, N8.out]; decide); have E9 := Aside0.mk hq_; have HC_12 := Aside0.mk g_; have H_12 := Aside0.mk (m_.blk (show s0 ≠ s2 by omega) H_11.out); have M_12 := Aside0.mk (M_11.out.trans m_); clear m_ g_ hq_ HC_11 H_11 M_11))
  refine PrintQTail.wp_region_quiet_tail 4 (by kernel_rfl) (by kernel_rfl) ?_
  simp only [List.take_succ_cons, List.take_zero, List.drop_succ_cons, List.drop_zero]
  quiet_step (fail)
  refine quiet_load_at rfl 28 (.tmp 45) rfl ⟨s0, 9, none⟩ rfl xr 15 Try.underlying28 rfl (by kernel_rfl) NR.out (fun i hi => by have h_ := row_cell H_12.out (9 + i) (by rw [N_.out]; omega); rw [show (⟨s0, 9, none⟩ : Addr).add i = ⟨s0, 9 + i, none⟩ by unfold Addr.add; split <;> simp_all]; rw [XR.out, seg_getD _ _ _ _ hi]; exact h_) ?_
  quiet_step (fail)
  quiet_step (fail)
  refine wpQuiet_nil ?_
  intro w_ hw_
  obtain ⟨nq, rfl⟩ := hw_
  go_wp2_with (first | ((with_reducible refine gate_dst (N := 49) rfl ?_); refine goesL_ (some 49) rfl rfl Try.func45 (by kernel_rfl) rfl #[.agg (nums .i64 xr).toArray, .slice (some ⟨s2, 40, none⟩) 88 88] rfl (by (try simp only [List.map_toArray, List.map_cons, List.map_nil]); first | done | rfl) ?_; refine (impl_Root_put.raw xr NR.out G9.out s2 40 88 88 Q9 _ (blk_drewN HC_12.out _) (by rw [N9.out]; decide) (by decide) (by rw [N9.out]; decide)).mono ?_; rintro e_ w13 ⟨rfl, m_, g_⟩; refine ⟨_, rfl, ?_⟩; have HC_13 := Aside0.mk g_; have M_13 := Aside0.mk ((M_12.out.then_ (pw_below_drewN (Below.refl _ _) nq)).trans m_); clear m_ g_))
  go_ret2
  have hfin := ino_puts (rootBytes_length NR.out) GX.out E0.out E1.out E2.out E3.out E4.out E5.out E6.out E7.out E8.out E9.out rfl
  rw [← HIB.out] at hfin
  have hc := HC_13.out
  rw [hfin] at hc
  have ho := own_blk (B := w.heap.size) hc (by omega) (by rw [HBL.out]; decide)
  rw [HBL.out] at ho
  exact ⟨_, rfl, ho, M_13.out.below HB3.out HB3.out.size (by omega)⟩

open Go.Proofs.YtkghgjehjchajaaW Go.Proofs.YtkghgjehjchajaaW.PrintHand Go.Proofs.YtkghgjehjchajaaW.PrintHx
/-! ### impl_EncodeTable: function 30 -/
open Go.Proofs.YtkghgjehjchajaaW.PrintLe Go.Proofs.YtkghgjehjchajaaW.PrintIno Go.Proofs.YtkghgjehjchajaaW.PrintTabl Go.Proofs.YtkghgjehjchajaaW.PrintTab2 Go.Proofs.YtkghgjehjchajaaW.PrintEqW Go.Proofs.YtkghgjehjchajaaW.PrintRaw
theorem impl_EncodeTable.cells {l : List (List Int)} (h : ∀ x ∈ l, x.length = 24) (j m : Nat) (hj : j ≤ m) :
    (tableBytesTo l j ++ List.replicate (128 * (m + 1 - j)) 0).take (128 * j) ++ inodeBytes (atI l j) ++ (tableBytesTo l j ++ List.replicate (128 * (m + 1 - j)) 0).drop (128 * j + 128) = tableBytesTo l (j + 1) ++ List.replicate (128 * (m + 1 - (j + 1))) 0 := by
  have hp := put_zeros (tableBytesTo l j) (inodeBytes (atI l j)) (128 * j) 0 (128 * (m + 1 - j)) (128 * j) 128 (tableBytesTo_length h j) (inodeBytes_length (atI_length h j)) (by omega) (by omega)
  rw [hp, tableBytesTo_succ, show 128 * (m + 1 - j) - 0 - 128 = 128 * (m + 1 - (j + 1)) by omega]
  rfl
theorem impl_EncodeTable.last {l : List (List Int)} (m k : Nat) (hk : k = min l.length (m + 1)) : tableBytesTo l k ++ List.replicate (128 * (m + 1 - k)) 0 = tableBytesTo l (m + 1) := by
  by_cases h : l.length ≤ m + 1
  · rw [Nat.min_eq_left h] at hk
    have hz := tableBytesTo_zeros l k (by omega) (m + 1 - k)
    rw [show k + (m + 1 - k) = m + 1 by omega] at hz
    exact hz.symm
  · rw [Nat.min_eq_right (by omega)] at hk
    rw [hk, Nat.sub_self, Nat.mul_zero, List.replicate_zero, List.append_nil]
def impl_EncodeTable.f (l0 : List (List Int)) : Option (List Int × Int) := some (if tableGood l0 = true then (tableBytes l0, 0) else ([], 7))
set_option maxHeartbeats 8000000 in
set_option maxRecDepth 100000 in
theorem impl_EncodeTable.calls (A0 : Option Addr) (c0 : Nat) (l0 : List (List Int)) (r1 : List Int) (r2 : Int) (w : World) (hr0 : Kd.C (PrintHx.wide 24) w A0 l0.length l0) (hc0 : l0.length ≤ c0) (h : impl_EncodeTable.f l0 = some (r1, r2)) :
    Calls Try.prog 30 #[.slice A0 l0.length c0] w fun e w' => ∃ v0_ : Value, e = .returned (.tuple #[v0_, .int .i64 r2]) ∧ Kd.R (Kd.int .u8) 5 w' w.heap.size (fun _ => True) v0_ r1 ∧ Below w.heap.size w w' := by
  unfold impl_EncodeTable.f at h
  have HH := Aside0.mk h
  have HW := Aside0.mk (wide_len hr0)
  have HR0 := Aside0.mk hr0
  have HC0 := Aside0.mk hc0
  obtain ⟨m, hm⟩ : ∃ m : Nat, (m : Int) = lastOf l0 := ⟨(lastOf l0).toNat, by have := lastOf_pos l0; omega⟩
  have HMM := Aside0.mk hm
  have HLEN := Aside0.mk (show l0.length ≤ 9223372036854775807 from hr0.2.1)
  have info5_ : (Try.prog.info? 5).map (fun i => (i.zero, i.size, i.bytes)) = some (some (.int .u8 0), 1, 1) := by kernel_rfl
  have Z42 : ∀ w, (zeroValue 42).run Try.prog w = .ok (.agg (nums .i64 (List.replicate 24 0)).toArray) w := fun _ => by kernel_rfl
  have HB := Aside0.mk (Below.refl w.heap.size w)
  clear hr0 hc0 h hm
  go_enter Try.func30, Try.ntmps30
  go_wp2
  (try simp only [Act.put, List.setIfInBounds_toArray, List.set_cons_succ, List.set_cons_zero])
  go_loopw [4, 5, 6, 13] (fun v4 v5 v6 v13 wr => ∃ (j : Nat) (u5 u6 : Value), u5 = v5 ∧ u6 = v6 ∧ v13 = .int .i64 (j : Int) ∧ v4 = .int .i64 (kOf l0 j) ∧ Aside0 (j ≤ l0.length) ∧ Aside0 (∀ i, i < j → inodeGood (l0.getD i []) = true) ∧ Aside0 (Below w.heap.size w wr)) (fun _ _ _ v13 _ => l0.length - (intOf v13).toNat)
  case atStart => exact ⟨0, _, _, rfl, rfl, rfl, by rw [kOf_zero], ⟨Nat.zero_le _⟩, ⟨fun i hi => absurd hi (by omega)⟩, HB⟩
  case round =>
    clear HB
    obtain ⟨j, v5, v6, rfl, rfl, rfl, rfl, hj, HG, HB⟩ := hrel
    obtain ⟨kj, hkj⟩ : ∃ kj, kj = kOf l0 j := ⟨_, rfl⟩
    rw [← hkj]
    have HKJ := Aside0.mk hkj
    clear hkj
    by_cases c9 : j < l0.length
    · have c9b0 : decide ((j : Int) < (l0.length : Int)) = true := decide_eq_true (by omega)
      have c9b1 : decide (j < l0.length) = true := decide_eq_true c9
      have q3 : ((j : Int) < (l0.length : Int)) = True := eq_true (by omega)
      have q4 : (0 ≤ (j : Int)) = True := eq_true (by omega)
      have q5 : (j < l0.length) = True := eq_true c9
      obtain ⟨ad, ea, hl, hc⟩ := wide_at (Kd.C_below HR0.out HB.out) j c9
      subst ea
      obtain ⟨x, hx⟩ : ∃ x, x = l0.getD j [] := ⟨_, rfl⟩
      rw [← hx] at hl hc
      obtain ⟨x0, hx0⟩ : ∃ x0, x0 = x.getD 0 0 := ⟨_, rfl⟩
      have HX0 := Aside0.mk hx0
      have HX := Aside0.mk hx
      have HL := Aside0.mk hl
      have HC := Aside0.mk hc
      have C9 := Aside0.mk c9
      obtain ⟨sj, Szj⟩ : ∃ s, Aside0 (wr.heap.size = s) := ⟨_, ⟨rfl⟩⟩
      have hle_ : w.heap.size ≤ sj := by rw [← Szj.out]; exact HB.out.size
      clear hx hx0 hl hc c9
      obtain ⟨b, hb⟩ : ∃ b, b = inodeGood x := ⟨_, rfl⟩
      have HG1 := Aside0.mk (show impl_Inode_right.f x = some b by rw [hb]; rfl)
      have HGB := Aside0.mk hb
      clear hb
      cases b with
      | false =>
        go_wp2_with (first | ((with_reducible refine gate_dst (N := 17) rfl ?_); refine hx_load_at rfl 42 (.tmp 16) rfl (ad.add (j * 24)) rfl x 24 Try.underlying42 rfl (by kernel_rfl) HL.out (fun i hi => by rw [Addr.add_add]; exact HC.out i hi) ?_) | ((with_reducible refine gate_dst (N := 6) rfl ?_); refine hx_alloc rfl 6 rfl 42 rfl Szj (.agg (nums .i64 (List.replicate 24 0)).toArray) (nums .i64 (List.replicate 24 0)).toArray Z42 rfl ?_; intro w2 s2 Ls2 Ss2 b_ g_; have HA := Aside0.mk g_; have HB2 := Aside0.mk (below_then HB.out HB.out.size b_); clear b_ g_ HB) | ((with_reducible refine gate_store (t := 42) (p := 6) (v := .tmp 17) rfl ?_); refine hx_store rfl rfl 42 (.tmp 6) (.tmp 17) rfl sj 24 rfl (nums .i64 x).toArray rfl (by kernel_rfl) (nums_size _ _ _ HL.out) (nums_one _ _) HA.out (by simp [nums]) ?_; intro w3 t_ gg_; have HA3 := Aside0.mk gg_; have HB3 := Aside0.mk (t_.below HB2.out (by omega)); clear t_ gg_ HA HB2) | ((with_reducible refine gate_dst (N := 18) rfl ?_); refine hx_load rfl 42 (.tmp 6) rfl sj 24 rfl Try.underlying42 rfl (by kernel_rfl) HA3.out (nums_size _ _ _ HL.out) ?_) | ((with_reducible refine gate_dst (N := 19) rfl ?_); refine goesL_ (some 19) rfl rfl Try.func52 (by kernel_rfl) rfl #[.agg (nums .i64 x).toArray] rfl (by (try simp only [List.map_toArray, List.map_cons, List.map_nil]); first | done | rfl) ?_; refine (impl_Inode_right.calls x HL.out _ _ HG1.out).mono ?_; rintro e_ w4 ⟨rfl, b_⟩; refine ⟨_, rfl, ?_⟩; have HB4 := Aside0.mk (below_then HB3.out HB3.out.size b_); have HA4 := Aside0.mk (blk_below HA3.out b_); have c0_ : w4.cell? ⟨sj, 0, none⟩ = some (.int .i64 x0) := (by have h_ := row_cell HA4.out 0 (by rw [HL.out]; decide); rw [← HX0.out] at h_; exact h_); clear b_ HB3 HA3))
        go_ret2
        have e_ : tableGood l0 = false := by unfold tableGood; rw [allGood_not C9.out (by rw [← HX.out]; exact HGB.out.symm)]; rfl
        have h_ := HH.out
        rw [e_] at h_
        simp only [Bool.false_eq_true, if_false, Option.some.injEq, Prod.mk.injEq] at h_
        obtain ⟨rfl, rfl⟩ := h_
        exact ⟨_, rfl, Kd.R_nil _ _ _ _ _, HB4.out⟩
      | true =>
        by_cases c23 : x0 = 0
        · have c23b : (x0 != 0) = false := by rw [c23]; rfl
          have HK := Aside0.mk (show kOf l0 (j + 1) = kj by rw [HKJ.out]; exact kOf_skip (by rw [← HX.out, ← HX0.out]; exact c23))
          clear c23
          go_wp2_with (first | ((with_reducible refine gate_dst (N := 17) rfl ?_); refine hx_load_at rfl 42 (.tmp 16) rfl (ad.add (j * 24)) rfl x 24 Try.underlying42 rfl (by kernel_rfl) HL.out (fun i hi => by rw [Addr.add_add]; exact HC.out i hi) ?_) | ((with_reducible refine gate_dst (N := 6) rfl ?_); refine hx_alloc rfl 6 rfl 42 rfl Szj (.agg (nums .i64 (List.replicate 24 0)).toArray) (nums .i64 (List.replicate 24 0)).toArray Z42 rfl ?_; intro w2 s2 Ls2 Ss2 b_ g_; have HA := Aside0.mk g_; have HB2 := Aside0.mk (below_then HB.out HB.out.size b_); clear b_ g_ HB) | ((with_reducible refine gate_store (t := 42) (p := 6) (v := .tmp 17) rfl ?_); refine hx_store rfl rfl 42 (.tmp 6) (.tmp 17) rfl sj 24 rfl (nums .i64 x).toArray rfl (by kernel_rfl) (nums_size _ _ _ HL.out) (nums_one _ _) HA.out (by simp [nums]) ?_; intro w3 t_ gg_; have HA3 := Aside0.mk gg_; have HB3 := Aside0.mk (t_.below HB2.out (by omega)); clear t_ gg_ HA HB2) | ((with_reducible refine gate_dst (N := 18) rfl ?_); refine hx_load rfl 42 (.tmp 6) rfl sj 24 rfl Try.underlying42 rfl (by kernel_rfl) HA3.out (nums_size _ _ _ HL.out) ?_) | ((with_reducible refine gate_dst (N := 19) rfl ?_); refine goesL_ (some 19) rfl rfl Try.func52 (by kernel_rfl) rfl #[.agg (nums .i64 x).toArray] rfl (by (try simp only [List.map_toArray, List.map_cons, List.map_nil]); first | done | rfl) ?_; refine (impl_Inode_right.calls x HL.out _ _ HG1.out).mono ?_; rintro e_ w4 ⟨rfl, b_⟩; refine ⟨_, rfl, ?_⟩; have HB4 := Aside0.mk (below_then HB3.out HB3.out.size b_); have HA4 := Aside0.mk (blk_below HA3.out b_); have c0_ : w4.cell? ⟨sj, 0, none⟩ = some (.int .i64 x0) := (by have h_ := row_cell HA4.out 0 (by rw [HL.out]; decide); rw [← HX0.out] at h_; exact h_); clear b_ HB3 HA3))
          go_roundw
          case rel => exact ⟨j + 1, _, _, rfl, rfl, by rw [show wrap64 ((j : Int) + 1) = ((j + 1 : Nat) : Int) by (have := HLEN.out; have := C9.out; unfold wrap64; omega)], by rw [HK.out], ⟨by have := C9.out; omega⟩, ⟨fun i hi => by
            by_cases hij : i = j
            · rw [hij, ← HX.out]; exact HGB.out.symm
            · exact HG.out i (by omega)⟩, HB4⟩
          case measure =>
            rw [show wrap64 ((j : Int) + 1) = ((j + 1 : Nat) : Int) by (have := HLEN.out; have := C9.out; unfold wrap64; omega)]
            simp only [intOf, Int.toNat_natCast]
            have := C9.out
            omega
        · have c23b : (x0 != 0) = true := bne_iff_ne.2 c23
          have HK := Aside0.mk (show kOf l0 (j + 1) = max kj (j : Int) by rw [HKJ.out]; exact kOf_use (by rw [← HX.out, ← HX0.out]; exact c23))
          clear c23
          go_wp2_with (first | ((with_reducible refine gate_dst (N := 17) rfl ?_); refine hx_load_at rfl 42 (.tmp 16) rfl (ad.add (j * 24)) rfl x 24 Try.underlying42 rfl (by kernel_rfl) HL.out (fun i hi => by rw [Addr.add_add]; exact HC.out i hi) ?_) | ((with_reducible refine gate_dst (N := 6) rfl ?_); refine hx_alloc rfl 6 rfl 42 rfl Szj (.agg (nums .i64 (List.replicate 24 0)).toArray) (nums .i64 (List.replicate 24 0)).toArray Z42 rfl ?_; intro w2 s2 Ls2 Ss2 b_ g_; have HA := Aside0.mk g_; have HB2 := Aside0.mk (below_then HB.out HB.out.size b_); clear b_ g_ HB) | ((with_reducible refine gate_store (t := 42) (p := 6) (v := .tmp 17) rfl ?_); refine hx_store rfl rfl 42 (.tmp 6) (.tmp 17) rfl sj 24 rfl (nums .i64 x).toArray rfl (by kernel_rfl) (nums_size _ _ _ HL.out) (nums_one _ _) HA.out (by simp [nums]) ?_; intro w3 t_ gg_; have HA3 := Aside0.mk gg_; have HB3 := Aside0.mk (t_.below HB2.out (by omega)); clear t_ gg_ HA HB2) | ((with_reducible refine gate_dst (N := 18) rfl ?_); refine hx_load rfl 42 (.tmp 6) rfl sj 24 rfl Try.underlying42 rfl (by kernel_rfl) HA3.out (nums_size _ _ _ HL.out) ?_) | ((with_reducible refine gate_dst (N := 19) rfl ?_); refine goesL_ (some 19) rfl rfl Try.func52 (by kernel_rfl) rfl #[.agg (nums .i64 x).toArray] rfl (by (try simp only [List.map_toArray, List.map_cons, List.map_nil]); first | done | rfl) ?_; refine (impl_Inode_right.calls x HL.out _ _ HG1.out).mono ?_; rintro e_ w4 ⟨rfl, b_⟩; refine ⟨_, rfl, ?_⟩; have HB4 := Aside0.mk (below_then HB3.out HB3.out.size b_); have HA4 := Aside0.mk (blk_below HA3.out b_); have c0_ : w4.cell? ⟨sj, 0, none⟩ = some (.int .i64 x0) := (by have h_ := row_cell HA4.out 0 (by rw [HL.out]; decide); rw [← HX0.out] at h_; exact h_); clear b_ HB3 HA3) | ((with_reducible refine gate_dst (N := 26) rfl ?_); refine hx_max rfl (.tmp 24) (.tmp 25) _ rfl kj (j : Int) rfl rfl (max kj (j : Int)) (by split <;> omega) ?_))
          go_roundw
          case rel => exact ⟨j + 1, _, _, rfl, rfl, by rw [show wrap64 ((j : Int) + 1) = ((j + 1 : Nat) : Int) by (have := HLEN.out; have := C9.out; unfold wrap64; omega)], by rw [HK.out], ⟨by have := C9.out; omega⟩, ⟨fun i hi => by
            by_cases hij : i = j
            · rw [hij, ← HX.out]; exact HGB.out.symm
            · exact HG.out i (by omega)⟩, HB4⟩
          case measure =>
            rw [show wrap64 ((j : Int) + 1) = ((j + 1 : Nat) : Int) by (have := HLEN.out; have := C9.out; unfold wrap64; omega)]
            simp only [intOf, Int.toNat_natCast]
            have := C9.out
            omega
    · obtain rfl : j = l0.length := by have := hj.out; omega
      have c9b0 : decide ((l0.length : Int) < (l0.length : Int)) = false := decide_eq_false (by omega)
      have c9b1 : decide (l0.length < l0.length) = false := decide_eq_false c9
      clear c9
      obtain rfl : kj = (m : Int) := by rw [HKJ.out, kOf_all, HMM.out]
      have HAG := Aside0.mk (allGood_of HG.out)
      by_cases c17 : 0 < l0.length
      · have c17b0 : decide ((0 : Int) < (l0.length : Int)) = true := decide_eq_true (by omega)
        have c17b1 : decide (0 < l0.length) = true := decide_eq_true c17
        have q3 : ((0 : Int) < (l0.length : Int)) = True := eq_true (by omega)
        have q5 : (0 < l0.length) = True := eq_true c17
        obtain ⟨ad, ea, hl, hc⟩ := wide_at (Kd.C_below HR0.out HB.out) 0 c17
        subst ea
        obtain ⟨x, hx⟩ : ∃ x, x = l0.getD 0 [] := ⟨_, rfl⟩
        obtain ⟨x0, hx0⟩ : ∃ x0, x0 = x.getD 0 0 := ⟨_, rfl⟩
        rw [← hx] at hl hc
        have hc0 := hc 0 (by decide)
        rw [← hx0] at hc0
        replace hc0 : wr.cell? ad = some (.int .i64 x0) := by simpa [Addr.add_zero'] using hc0
        have hk0 : x0 = 0 ↔ x = zInode := by rw [hx0]; exact good_kind (by rw [hx]; exact HG.out 0 c17)
        have HX := Aside0.mk hx
        have HK0 := Aside0.mk hk0
        clear hx hl hc c17 hx0 hk0
        by_cases c24 : x0 = 0
        · have BE : (x0 != 0) = false := by rw [c24]; rfl
          have HFZ := Aside0.mk (show firstZero l0 = true by unfold firstZero; rw [← HX.out, decide_eq_true (HK0.out.1 c24)]; simp)
          clear c24
          by_cases c29 : m ≤ 1000
          · have c29b0 : decide ((1000 : Int) < (m : Int)) = false := decide_eq_false (by omega)
            have c29b1 : decide (1000 < m) = false := decide_eq_false (by omega)
            have HTG := Aside0.mk (show tableGood l0 = true by unfold tableGood; rw [HAG.out, HFZ.out, decide_eq_true (show lastOf l0 ≤ 1000 by rw [← HMM.out]; omega)]; rfl)
            have HM := Aside0.mk c29
            clear c29
            have h_ := HH.out
            rw [HTG.out] at h_
            simp only [if_true, Option.some.injEq, Prod.mk.injEq] at h_
            obtain ⟨rfl, rfl⟩ := h_
            have HRES := Aside0.mk (show tableBytes l0 = tableBytesTo l0 (m + 1) by unfold tableBytes; rw [show (lastOf l0).toNat = m by have := HMM.out; omega])
            obtain ⟨s1, Sz1⟩ : ∃ s, Aside0 (wr.heap.size = s) := ⟨_, ⟨rfl⟩⟩
            have hs1 : w.heap.size ≤ s1 := by rw [← Sz1.out]; exact HB.out.size
            obtain ⟨mn, hmn⟩ : ∃ mn, mn = min l0.length (m + 1) := ⟨_, rfl⟩
            have HMN := Aside0.mk hmn
            clear hmn
            go_wp2_with (first | ((with_reducible refine gate_dst (N := 43) rfl ?_); refine hx_addn rfl 3 (.tmp 42) _ rfl m 1 rfl rfl (by have := HM.out; omega) ?_; intro n1 E1) | ((with_reducible refine gate_dst (N := 44) rfl ?_); refine hx_muln rfl 3 _ (.tmp 43) rfl 128 n1 rfl rfl (by have := E1.out; have := HM.out; omega) ?_; intro n2 E2) | ((with_reducible refine gate_dst (N := 45) rfl ?_); refine make_num rfl (N := 45) rfl n2 5 .u8 Sz1 ?hr ?_; (case hr => exact make_u8 25 5 n2 _ _ rfl rfl rfl Try.underlying25 info5_ (by have := E2.out; have := E1.out; have := HM.out; omega)); intro w2 s2 L2 Sz2 b_ g_; have HS2 := Aside0.mk g_; have HB2 := Aside0.mk (below_then HB.out HB.out.size b_); clear b_ g_ HB) | ((with_reducible refine gate_dst (N := 49) rfl ?_); refine hx_addn rfl 3 (.tmp 48) _ rfl m 1 rfl rfl (by have := HM.out; omega) ?_; intro n3 E3) | ((with_reducible refine gate_dst (N := 50) rfl ?_); refine hx_min rfl (.tmp 47) (.tmp 49) _ rfl (l0.length : Int) (n3 : Int) rfl rfl (mn : Int) (by have h1_ := HMN.out; have h2_ := E3.out; split <;> omega) ?_))
            (try simp only [Act.put, List.setIfInBounds_toArray, List.set_cons_succ, List.set_cons_zero])
            go_loopw [8, 9, 10, 51] (fun v8 v9 v10 v51 wr => ∃ (j : Nat) (u8 u9 u10 : Value), u8 = v8 ∧ u9 = v9 ∧ u10 = v10 ∧ v51 = .int .i64 (j : Int) ∧ Aside0 (j ≤ mn) ∧ Aside0 (wr.heap[s1]? = some (.cells (nums .u8 (tableBytesTo l0 j ++ List.replicate (128 * (m + 1 - j)) 0)).toArray 5 (0, 0))) ∧ Aside0 (Below w.heap.size w wr)) (fun _ _ _ v51 _ => mn - (intOf v51).toNat)
            case atStart => exact ⟨0, _, _, _, rfl, rfl, rfl, rfl, ⟨Nat.zero_le _⟩, ⟨by rw [show tableBytesTo l0 0 = [] from rfl, List.nil_append, show 128 * (m + 1 - 0) = n2 by have := E2.out; have := E1.out; omega]; exact HS2.out⟩, HB2⟩
            case round =>
              clear HS2 HB2
              obtain ⟨j, v8, v9, v10, rfl, rfl, rfl, rfl, hj, HS, HB⟩ := hrel
              by_cases c52 : j < mn
              · have c52b0 : decide ((j : Int) < (mn : Int)) = true := decide_eq_true (by omega)
                have c52b1 : decide (j < mn) = true := decide_eq_true c52
                have hjl : j < l0.length := by have := HMN.out; omega
                have hjm : j ≤ m := by have := HMN.out; omega
                have q3 : ((j : Int) < (l0.length : Int)) = True := eq_true (by omega)
                have q4 : (0 ≤ (j : Int)) = True := eq_true (by omega)
                have q5 : (j < l0.length) = True := eq_true hjl
                obtain ⟨ad, ea, hl, hc⟩ := wide_at (Kd.C_below HR0.out HB.out) j hjl
                (first | subst ea | cases ea)
                obtain ⟨x, hx⟩ : ∃ x, x = l0.getD j [] := ⟨_, rfl⟩
                rw [← hx] at hl hc
                have HX := Aside0.mk (show x = atI l0 j by rw [hx]; unfold atI; rw [if_pos hjl])
                have HL := Aside0.mk hl
                have HC := Aside0.mk hc
                have HXB := Aside0.mk (show impl_EncodeInode.f x = some (inodeBytes x, 0) by unfold impl_EncodeInode.f; rw [if_pos (by rw [HX.out]; exact atI_good HAG.out j)])
                have HYL := Aside0.mk (inodeBytes_length hl)
                have C52 := Aside0.mk c52
                have HJM := Aside0.mk hjm
                clear hx hl hc c52 hjl hjm
                obtain ⟨Q, hq⟩ : ∃ Q, Q = tableBytesTo l0 j ++ List.replicate (128 * (m + 1 - j)) 0 := ⟨_, rfl⟩
                rw [← hq] at HS
                have HQL := Aside0.mk (show Q.length = n2 by rw [hq, List.length_append, List.length_replicate, tableBytesTo_length HW.out]; have := E2.out; have := E1.out; have := HJM.out; omega)
                have HQ := Aside0.mk hq
                clear hq
                go_wp2_with (first | ((with_reducible refine gate_dst (N := 58) rfl ?_); refine hx_load_at rfl 42 (.tmp 57) rfl (ad.add (j * 24)) rfl x 24 Try.underlying42 rfl (by kernel_rfl) HL.out (fun i hi => by rw [Addr.add_add]; exact HC.out i hi) ?_) | ((with_reducible refine gate_dst (N := 59) rfl ?_); refine goesL_ (some 59) rfl rfl Try.func23 (by kernel_rfl) rfl #[.agg (nums .i64 x).toArray] rfl (by (try simp only [List.map_toArray, List.map_cons, List.map_nil]); first | done | rfl) ?_; refine (impl_EncodeInode.calls x HL.out (inodeBytes x) 0 _ HXB.out).mono ?_; rintro e_ w3 ⟨v59, rfl, R_, b_⟩; obtain ⟨A59, c59, rfl⟩ := Kd.R_slice R_; refine ⟨_, rfl, ?_⟩; have O59 := Aside0.mk R_; have HB3 := Aside0.mk (below_then HB.out HB.out.size b_); have HS3 := Aside0.mk (blk_below HS.out b_); clear R_ b_ HB HS) | ((with_reducible refine gate_dst (N := 64) rfl ?_); refine hx_muln rfl 3 (.tmp 63) _ rfl j 128 rfl rfl (by have := HJM.out; have := HM.out; omega) ?_; intro of_ EO) | ((with_reducible refine gate_dst (N := 65) rfl ?_); refine hx_cut rfl 25 5 (.tmp 62) (.tmp 64) rfl s1 n2 n2 of_ rfl rfl Try.underlying25 (by kernel_rfl) (by have := EO.out; have := E2.out; have := E1.out; have := HJM.out; omega) (by have := EO.out; have := E2.out; have := E1.out; have := HJM.out; omega) ?_) | ((with_reducible refine gate_dst (N := 67) rfl ?_); refine cp_num rfl (.tmp 65) (.tmp 66) 25 25 rfl 5 Try.underlying25 (by kernel_rfl) s1 of_ (n2 - of_) (n2 - of_) A59 c59 (inodeBytes x) Q rfl rfl HS3.out (by rw [HYL.out]; decide) (by rw [HYL.out]; have := EO.out; have := E2.out; have := E1.out; have := HJM.out; omega) (by rw [HYL.out, HQL.out]; have := EO.out; have := E2.out; have := E1.out; have := HJM.out; omega) (Kd.R_reads' O59.out).2.2 ?_; intro w4 t_ g_; have HS4 := Aside0.mk g_; have HB4 := Aside0.mk (t_.below HB3.out hs1); clear t_ g_ HB3 HS3))
                go_roundw
                case rel => exact ⟨j + 1, _, _, _, rfl, rfl, rfl, by rw [show wrap64 ((j : Int) + 1) = ((j + 1 : Nat) : Int) by (have := HM.out; have := HJM.out; unfold wrap64; omega)], ⟨by have := C52.out; omega⟩, ⟨by
                  have h_ := HS4.out
                  rw [HYL.out, HQ.out, HX.out, show of_ = 128 * j by rw [EO.out]; omega, impl_EncodeTable.cells HW.out j m HJM.out] at h_
                  exact h_⟩, HB4⟩
                case measure =>
                  rw [show wrap64 ((j : Int) + 1) = ((j + 1 : Nat) : Int) by (have := HM.out; have := HJM.out; unfold wrap64; omega)]
                  simp only [intOf, Int.toNat_natCast]
                  have := C52.out
                  omega
              · obtain rfl : j = mn := by have := hj.out; omega
                have c52b0 : decide ((j : Int) < (j : Int)) = false := decide_eq_false (by omega)
                have c52b1 : decide (j < j) = false := decide_eq_false (by omega)
                clear c52
                go_wp2
                go_ret2
                have h_ := HS.out
                rw [impl_EncodeTable.last m j HMN.out, ← HRES.out] at h_
                have hl_ : (tableBytes l0).length = n2 := by rw [HRES.out, tableBytesTo_length HW.out]; have := E2.out; have := E1.out; omega
                have ho := own_blk (B := w.heap.size) h_ hs1 (by rw [hl_]; have := E2.out; have := E1.out; have := HM.out; omega)
                rw [hl_] at ho
                exact ⟨_, rfl, ho, HB.out⟩
          · have c29b0 : decide ((1000 : Int) < (m : Int)) = true := decide_eq_true (by omega)
            have c29b1 : decide (1000 < m) = true := decide_eq_true (by omega)
            have HTG := Aside0.mk (show tableGood l0 = false by unfold tableGood; rw [decide_eq_false (show ¬ lastOf l0 ≤ 1000 by rw [← HMM.out]; omega)]; simp)
            clear c29
            go_wp2
            go_ret2
            have h_ := HH.out
            rw [HTG.out] at h_
            simp only [Bool.false_eq_true, if_false, Option.some.injEq, Prod.mk.injEq] at h_
            obtain ⟨rfl, rfl⟩ := h_
            exact ⟨_, rfl, Kd.R_nil _ _ _ _ _, HB.out⟩
        · have BE : (x0 != 0) = true := bne_iff_ne.2 c24
          have HFZ := Aside0.mk (show firstZero l0 = false by unfold firstZero; rw [← HX.out, decide_eq_false (show ¬ x = zInode by intro h_; exact c24 (HK0.out.2 h_)), decide_eq_false (show ¬ l0.length = 0 by have := of_eq_true q5; omega)]; rfl)
          clear c24
          go_wp2
          go_ret2
          have e_ : tableGood l0 = false := by unfold tableGood; rw [HFZ.out]; simp
          have h_ := HH.out
          rw [e_] at h_
          simp only [Bool.false_eq_true, if_false, Option.some.injEq, Prod.mk.injEq] at h_
          obtain ⟨rfl, rfl⟩ := h_
          exact ⟨_, rfl, Kd.R_nil _ _ _ _ _, HB.out⟩
      · have c17b0 : decide ((0 : Int) < (l0.length : Int)) = false := decide_eq_false (by omega)
        have c17b1 : decide (0 < l0.length) = false := decide_eq_false c17
        have HFZ := Aside0.mk (show firstZero l0 = true by unfold firstZero; rw [decide_eq_true (show l0.length = 0 by omega)]; rfl)
        clear c17
        by_cases c29 : m ≤ 1000
        · have c29b0 : decide ((1000 : Int) < (m : Int)) = false := decide_eq_false (by omega)
          have c29b1 : decide (1000 < m) = false := decide_eq_false (by omega)
          have HTG := Aside0.mk (show tableGood l0 = true by unfold tableGood; rw [HAG.out, HFZ.out, decide_eq_true (show lastOf l0 ≤ 1000 by rw [← HMM.out]; omega)]; rfl)
          have HM := Aside0.mk c29
          clear c29
          have h_ := HH.out
          rw [HTG.out] at h_
          simp only [if_true, Option.some.injEq, Prod.mk.injEq] at h_
          obtain ⟨rfl, rfl⟩ := h_
          have HRES := Aside0.mk (show tableBytes l0 = tableBytesTo l0 (m + 1) by unfold tableBytes; rw [show (lastOf l0).toNat = m by have := HMM.out; omega])
          obtain ⟨s1, Sz1⟩ : ∃ s, Aside0 (wr.heap.size = s) := ⟨_, ⟨rfl⟩⟩
          have hs1 : w.heap.size ≤ s1 := by rw [← Sz1.out]; exact HB.out.size
          obtain ⟨mn, hmn⟩ : ∃ mn, mn = min l0.length (m + 1) := ⟨_, rfl⟩
          have HMN := Aside0.mk hmn
          clear hmn
          go_wp2_with (first | ((with_reducible refine gate_dst (N := 43) rfl ?_); refine hx_addn rfl 3 (.tmp 42) _ rfl m 1 rfl rfl (by have := HM.out; omega) ?_; intro n1 E1) | ((with_reducible refine gate_dst (N := 44) rfl ?_); refine hx_muln rfl 3 _ (.tmp 43) rfl 128 n1 rfl rfl (by have := E1.out; have := HM.out; omega) ?_; intro n2 E2) | ((with_reducible refine gate_dst (N := 45) rfl ?_); refine make_num rfl (N := 45) rfl n2 5 .u8 Sz1 ?hr ?_; (case hr => exact make_u8 25 5 n2 _ _ rfl rfl rfl Try.underlying25 info5_ (by have := E2.out; have := E1.out; have := HM.out; omega)); intro w2 s2 L2 Sz2 b_ g_; have HS2 := Aside0.mk g_; have HB2 := Aside0.mk (below_then HB.out HB.out.size b_); clear b_ g_ HB) | ((with_reducible refine gate_dst (N := 49) rfl ?_); refine hx_addn rfl 3 (.tmp 48) _ rfl m 1 rfl rfl (by have := HM.out; omega) ?_; intro n3 E3) | ((with_reducible refine gate_dst (N := 50) rfl ?_); refine hx_min rfl (.tmp 47) (.tmp 49) _ rfl (l0.length : Int) (n3 : Int) rfl rfl (mn : Int) (by have h1_ := HMN.out; have h2_ := E3.out; split <;> omega) ?_))
          (try simp only [Act.put, List.setIfInBounds_toArray, List.set_cons_succ, List.set_cons_zero])
          go_loopw [8, 9, 10, 51] (fun v8 v9 v10 v51 wr => ∃ (j : Nat) (u8 u9 u10 : Value), u8 = v8 ∧ u9 = v9 ∧ u10 = v10 ∧ v51 = .int .i64 (j : Int) ∧ Aside0 (j ≤ mn) ∧ Aside0 (wr.heap[s1]? = some (.cells (nums .u8 (tableBytesTo l0 j ++ List.replicate (128 * (m + 1 - j)) 0)).toArray 5 (0, 0))) ∧ Aside0 (Below w.heap.size w wr)) (fun _ _ _ v51 _ => mn - (intOf v51).toNat)
          case atStart => exact ⟨0, _, _, _, rfl, rfl, rfl, rfl, ⟨Nat.zero_le _⟩, ⟨by rw [show tableBytesTo l0 0 = [] from rfl, List.nil_append, show 128 * (m + 1 - 0) = n2 by have := E2.out; have := E1.out; omega]; exact HS2.out⟩, HB2⟩
          case round =>
            clear HS2 HB2
            obtain ⟨j, v8, v9, v10, rfl, rfl, rfl, rfl, hj, HS, HB⟩ := hrel
            by_cases c52 : j < mn
            · have c52b0 : decide ((j : Int) < (mn : Int)) = true := decide_eq_true (by omega)
              have c52b1 : decide (j < mn) = true := decide_eq_true c52
              have hjl : j < l0.length := by have := HMN.out; omega
              have hjm : j ≤ m := by have := HMN.out; omega
              have q3 : ((j : Int) < (l0.length : Int)) = True := eq_true (by omega)
              have q4 : (0 ≤ (j : Int)) = True := eq_true (by omega)
              have q5 : (j < l0.length) = True := eq_true hjl
              obtain ⟨ad, ea, hl, hc⟩ := wide_at (Kd.C_below HR0.out HB.out) j hjl
              (first | subst ea | cases ea)
              obtain ⟨x, hx⟩ : ∃ x, x = l0.getD j [] := ⟨_, rfl⟩
              rw [← hx] at hl hc
              have HX := Aside0.mk (show x = atI l0 j by rw [hx]; unfold atI; rw [if_pos hjl])
              have HL := Aside0.mk hl
              have HC := Aside0.mk hc
              have HXB := Aside0.mk (show impl_EncodeInode.f x = some (inodeBytes x, 0) by unfold impl_EncodeInode.f; rw [if_pos (by rw [HX.out]; exact atI_good HAG.out j)])
              have HYL := Aside0.mk (inodeBytes_length hl)
              have C52 := Aside0.mk c52
              have HJM := Aside0.mk hjm
              clear hx hl hc c52 hjl hjm
              obtain ⟨Q, hq⟩ : ∃ Q, Q = tableBytesTo l0 j ++ List.replicate (128 * (m + 1 - j)) 0 := ⟨_, rfl⟩
              rw [← hq] at HS
              have HQL := Aside0.mk (show Q.length = n2 by rw [hq, List.length_append, List.length_replicate, tableBytesTo_length HW.out]; have := E2.out; have := E1.out; have := HJM.out; omega)
              have HQ := Aside0.mk hq
              clear hq
              go_wp2_with (first | ((with_reducible refine gate_dst (N := 58) rfl ?_); refine hx_load_at rfl 42 (.tmp 57) rfl (ad.add (j * 24)) rfl x 24 Try.underlying42 rfl (by kernel_rfl) HL.out (fun i hi => by rw [Addr.add_add]; exact HC.out i hi) ?_) | ((with_reducible refine gate_dst (N := 59) rfl ?_); refine goesL_ (some 59) rfl rfl Try.func23 (by kernel_rfl) rfl #[.agg (nums .i64 x).toArray] rfl (by (try simp only [List.map_toArray, List.map_cons, List.map_nil]); first | done | rfl) ?_; refine (impl_EncodeInode.calls x HL.out (inodeBytes x) 0 _ HXB.out).mono ?_; rintro e_ w3 ⟨v59, rfl, R_, b_⟩; obtain ⟨A59, c59, rfl⟩ := Kd.R_slice R_; refine ⟨_, rfl, ?_⟩; have O59 := Aside0.mk R_; have HB3 := Aside0.mk (below_then HB.out HB.out.size b_); have HS3 := Aside0.mk (blk_below HS.out b_); clear R_ b_ HB HS) | ((with_reducible refine gate_dst (N := 64) rfl ?_); refine hx_muln rfl 3 (.tmp 63) _ rfl j 128 rfl rfl (by have := HJM.out; have := HM.out; omega) ?_; intro of_ EO) | ((with_reducible refine gate_dst (N := 65) rfl ?_); refine hx_cut rfl 25 5 (.tmp 62) (.tmp 64) rfl s1 n2 n2 of_ rfl rfl Try.underlying25 (by kernel_rfl) (by have := EO.out; have := E2.out; have := E1.out; have := HJM.out; omega) (by have := EO.out; have := E2.out; have := E1.out; have := HJM.out; omega) ?_) | ((with_reducible refine gate_dst (N := 67) rfl ?_); refine cp_num rfl (.tmp 65) (.tmp 66) 25 25 rfl 5 Try.underlying25 (by kernel_rfl) s1 of_ (n2 - of_) (n2 - of_) A59 c59 (inodeBytes x) Q rfl rfl HS3.out (by rw [HYL.out]; decide) (by rw [HYL.out]; have := EO.out; have := E2.out; have := E1.out; have := HJM.out; omega) (by rw [HYL.out, HQL.out]; have := EO.out; have := E2.out; have := E1.out; have := HJM.out; omega) (Kd.R_reads' O59.out).2.2 ?_; intro w4 t_ g_; have HS4 := Aside0.mk g_; have HB4 := Aside0.mk (t_.below HB3.out hs1); clear t_ g_ HB3 HS3))
              go_roundw
              case rel => exact ⟨j + 1, _, _, _, rfl, rfl, rfl, by rw [show wrap64 ((j : Int) + 1) = ((j + 1 : Nat) : Int) by (have := HM.out; have := HJM.out; unfold wrap64; omega)], ⟨by have := C52.out; omega⟩, ⟨by
                have h_ := HS4.out
                rw [HYL.out, HQ.out, HX.out, show of_ = 128 * j by rw [EO.out]; omega, impl_EncodeTable.cells HW.out j m HJM.out] at h_
                exact h_⟩, HB4⟩
              case measure =>
                rw [show wrap64 ((j : Int) + 1) = ((j + 1 : Nat) : Int) by (have := HM.out; have := HJM.out; unfold wrap64; omega)]
                simp only [intOf, Int.toNat_natCast]
                have := C52.out
                omega
            · obtain rfl : j = mn := by have := hj.out; omega
              have c52b0 : decide ((j : Int) < (j : Int)) = false := decide_eq_false (by omega)
              have c52b1 : decide (j < j) = false := decide_eq_false (by omega)
              clear c52
              go_wp2
              go_ret2
              have h_ := HS.out
              rw [impl_EncodeTable.last m j HMN.out, ← HRES.out] at h_
              have hl_ : (tableBytes l0).length = n2 := by rw [HRES.out, tableBytesTo_length HW.out]; have := E2.out; have := E1.out; omega
              have ho := own_blk (B := w.heap.size) h_ hs1 (by rw [hl_]; have := E2.out; have := E1.out; have := HM.out; omega)
              rw [hl_] at ho
              exact ⟨_, rfl, ho, HB.out⟩
        · have c29b0 : decide ((1000 : Int) < (m : Int)) = true := decide_eq_true (by omega)
          have c29b1 : decide (1000 < m) = true := decide_eq_true (by omega)
          have HTG := Aside0.mk (show tableGood l0 = false by unfold tableGood; rw [decide_eq_false (show ¬ lastOf l0 ≤ 1000 by rw [← HMM.out]; omega)]; simp)
          clear c29
          go_wp2
          go_ret2
          have h_ := HH.out
          rw [HTG.out] at h_
          simp only [Bool.false_eq_true, if_false, Option.some.injEq, Prod.mk.injEq] at h_
          obtain ⟨rfl, rfl⟩ := h_
          exact ⟨_, rfl, Kd.R_nil _ _ _ _ _, HB.out⟩

/-! ### impl_number: function 76 -/
def impl_number.l0 : Nat → List Int → Int → Int → Int → Option (Int)
  | 0, _, _, _, _ => none
  | k + 1, x0, x1, x7, x8 => if x8 ≥ 0 then (if 0 ≤ (wrap64 (x1 + x8)) then (if (wrap64 (x1 + x8)) < (x0.length : Int) then (impl_number.l0 k x0 x1 (Go.bits .or .u64 (IntKind.u64.wrap (x7 * 256)) (IntKind.u64.wrap (rd x0 (wrap64 (x1 + x8))))) (wrap64 (x8 - 1))) else (none)) else (none)) else (some (wrap64 (x7)))
def impl_number.f (k : Nat) (l0 : List Int) (a1 : Int) (a2 : Int) : Option (Int) := impl_number.l0 k l0 a1 0 (wrap64 (a2 - 1))
theorem impl_number.mono_l : ∀ k, (∀ y0 y1 y2 y3, LeO (impl_number.l0 k y0 y1 y2 y3) (impl_number.l0 (k + 1) y0 y1 y2 y3))
  | 0 => fun _ _ _ _ r h => by simp [impl_number.l0] at h
  | k + 1 => by
    have ih0 := impl_number.mono_l k
    · intro y0 y1 y2 y3
      unfold impl_number.l0
      repeat' first
      | (with_reducible exact ih0 _ _ _ _)
      | (with_reducible exact LeO.refl _)
      | (with_reducible exact LeO.none _)
      | (with_reducible refine LeO.ite ?_ ?_)
      | (with_reducible refine LeO.bind ?_ (fun _ => ?_))
      | exact ih0 _ _ _ _
      | exact LeO.none _
      | refine LeO.ite ?_ ?_
      | refine LeO.bind ?_ (fun _ => ?_)
theorem impl_number.mono : ∀ a0 a1 a2 k, LeO (impl_number.f k a0 a1 a2) (impl_number.f (k + 1) a0 a1 a2) := by
  intro a0 a1 a2 k
  have ih0 := impl_number.mono_l k
  unfold impl_number.f
  repeat' first
      | (with_reducible exact ih0 _ _ _ _)
      | (with_reducible exact LeO.refl _)
      | (with_reducible exact LeO.none _)
      | (with_reducible refine LeO.ite ?_ ?_)
      | (with_reducible refine LeO.bind ?_ (fun _ => ?_))
      | exact ih0 _ _ _ _
      | exact LeO.none _
      | refine LeO.ite ?_ ?_
      | refine LeO.bind ?_ (fun _ => ?_)
set_option maxHeartbeats 8000000 in
set_option maxRecDepth 100000 in
theorem impl_number.calls (k : Nat) (A0 : Option Addr) (c0 : Nat) (l0 : List Int) (a1 : Int) (a2 : Int) (r : Int) (w : World) (hr0 : Kd.C (Kd.int .u8) w A0 l0.length l0) (hc0 : l0.length ≤ c0) (h : impl_number.f k l0 a1 a2 = some r) :
    Calls Try.prog 76 #[.slice A0 l0.length c0, .int .i64 a1, .int .i64 a2] w fun e w' => e = .returned (.int .i64 r) ∧ Drawn0 w w' := by
  have HR0 := Aside0.mk hr0
  have HC0 := Aside0.mk hc0
  clear hr0 hc0
  have H : (impl_number.l0 k l0 a1 0 (wrap64 (a2 - 1))) = some r := h
  clear h
  have H' := Aside0.mk H
  clear H
  go_enter Try.func76, Try.ntmps76
  go_wp2
  go_loopg [7, 8] k (fun kq v7 v8 w' => ∃ (x7_1 : Int) (x8_1 : Int), v7 = .int .u64 x7_1 ∧ v8 = .int .i64 x8_1 ∧ Aside0 (impl_number.l0 kq l0 a1 x7_1 x8_1 = some r) ∧ Aside0 (kq ≤ k) ∧ Drawn0 w w')
  case atStart => exact ⟨(0), (wrap64 (a2 - 1)), (by first | rfl | (simp; done) | (simp [*]; done)), (by first | rfl | (simp; done) | (simp [*]; done)), H', ⟨Nat.le_refl _⟩, by repeat (first | exact Drawn0.refl _ | apply Drawn0.step)⟩
  case round =>
    clear H'
    try clear p2
    obtain ⟨x7_1, x8_1, rfl, rfl, HA, HK1, ⟨m1, rfl⟩⟩ := hrel
    cases gk with
    | zero => exact absurd HA.out (by simp [impl_number.l0])
    | succ k1 =>
      have H := HA.out
      clear HA
      simp only [impl_number.l0] at H
      by_cases c4 : x8_1 ≥ 0
      · rw [if_pos c4] at H
        have c4b0 : decide (0 ≤ x8_1) = true := decide_eq_true c4
        clear c4
        obtain ⟨ji5, hji5⟩ : ∃ j_ : Int, (wrap64 (a1 + x8_1)) = j_ := ⟨_, rfl⟩
        replace H : (if 0 ≤ (ji5) then (if (ji5) < (l0.length : Int) then (impl_number.l0 k1 l0 a1 (Go.bits .or .u64 (IntKind.u64.wrap (x7_1 * 256)) (IntKind.u64.wrap (rd l0 (ji5)))) (wrap64 (x8_1 - 1))) else (none)) else (none)) = some r := by first | (rw [hji5] at H; exact H) | (simp only [hji5] at H ⊢; exact H)
        have hji5w : (IntKind.i64.wrap (a1 + x8_1)) = ji5 := (i64_w _).trans hji5
        by_cases c6 : 0 ≤ (ji5)
        · rw [if_pos c6] at H
          have c6b0 : decide (0 ≤ (ji5)) = true := decide_eq_true c6
          clear c6
          by_cases c7 : (ji5) < (l0.length : Int)
          · rw [if_pos c7] at H
            have c7b0 : decide ((ji5) < (l0.length : Int)) = true := decide_eq_true c7
            clear c7
            have H' := Aside0.mk H
            clear H
            have p125 : 0 ≤ ((ji5) : Int) := of_decide_eq_true (by first | (with_reducible assumption) | assumption)
            have q125 : (ji5) < (l0.length : Int) := of_decide_eq_true (by first | (with_reducible assumption) | assumption)
            obtain ⟨ad125, e125, hx125_0⟩ := Kd.at_int HR0.out (ji5) p125 q125
            cases e125
            replace p125 := eq_true p125
            replace q125 := eq_true q125
            go_wp2
            go_roundg k1
            case measure => have := HK1.out; omega
            case rel => exact ⟨(Go.bits .or .u64 (IntKind.u64.wrap (x7_1 * 256)) (IntKind.u64.wrap (rd l0 (ji5)))), (wrap64 (x8_1 - 1)), (by first | rfl | (simp; done) | (simp only [← hji5] <;> (first | rfl | simp)) | (simp [*]; done)), (by first | rfl | (simp; done) | (simp [*]; done)), H', ⟨by have := HK1.out; omega⟩, by repeat (first | exact Drawn0.refl _ | apply Drawn0.step)⟩
          · rw [if_neg c7] at H
            exact absurd H (by simp)
        · rw [if_neg c6] at H
          exact absurd H (by simp)
      · rw [if_neg c4] at H
        have c4b0 : decide (0 ≤ x8_1) = false := decide_eq_false c4
        clear c4
        obtain rfl := Option.some.inj H
        go_wp2
        go_ret
        exact ⟨by first | rfl | (simp; done) | (simp [*]; done), by repeat (first | exact Drawn0.refl _ | apply Drawn0.step)⟩

end Go.Proofs.Ytkghgjehjchajaa.PFnTable
