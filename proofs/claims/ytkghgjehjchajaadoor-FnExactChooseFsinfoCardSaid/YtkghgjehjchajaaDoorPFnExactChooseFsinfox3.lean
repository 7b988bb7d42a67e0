-- Written by a program of this session (patch_print.py over the kit print)
import Derived.Test.YtkghgjehjchajaaDoorPFnExactChooseFsinfox0
import Derived.Test.YtkghgjehjchajaaDoorPFnExactChooseFsinfox1
import Derived.Test.YtkghgjehjchajaaDoorPFnExactChooseFsinfox2
namespace Go.Proofs.YtkghgjehjchajaaDoor.PFnExactChooseFsinfo
open Go.RowKit Go.Proofs.YtkghgjehjchajaaDoorW.PrintWords Go.Proofs.YtkghgjehjchajaaDoorW.PrintLast Go.Proofs.YtkghgjehjchajaaDoorW.PrintMore
attribute [local go_sem] max2_int min2_int max_two min_two max_three min_three max_four min_four   -- for this text's walks alone
set_option linter.unusedVariables false
set_option linter.unusedSimpArgs false

open Go.Proofs.YtkghgjehjchajaaDoorW Go.Proofs.YtkghgjehjchajaaDoorW.PrintHand Go.Proofs.YtkghgjehjchajaaDoorW.PrintHx
/-! ### impl_EncodeFsinfo: function 22 -/
open Go.Proofs.YtkghgjehjchajaaDoorW.PrintLe Go.Proofs.YtkghgjehjchajaaDoorW.PrintRaw
theorem made_u8 (n : Nat) : madeCells (Value.int .u8 0).cells (n * 1) = (nums .u8 (List.replicate n 0)).toArray := by
  apply Array.ext
  · simp [madeCells, nums]
  · intro i h1 h2
    simp [madeCells, nums, Value.cells, Nat.mod_one]
theorem make_u8 {P : Program} {o : Oper} {a : Act} {w : World} (t e n : Nat) (x y : Operand) (ho : o.op = .makeSlice t x y) (hx : a.eval x = .int .i64 (n : Int)) (hy : a.eval y = .int .i64 (n : Int)) (ht : P.underlying t = some (.slice e)) (hinfo : (P.info? e).map (fun i => (i.zero, i.size, i.bytes)) = some (some (.int .u8 0), 1, 1)) (hn : n ≤ 1048576) :
    (execOp a.eval o).run P w = .ok (.value (.slice (some ⟨w.heap.size, 0, none⟩) n n)) (w.alloc (.cells (nums .u8 (List.replicate n 0)).toArray e)) := by
  obtain ⟨i0, hi, hzz⟩ := Option.map_eq_some_iff.1 hinfo
  simp only [Prod.mk.injEq] at hzz
  obtain ⟨hz0, hz1, hz2⟩ := hzz
  have hr := run_make (P := P) w t e i0 (.int .u8 0) ht hi hz0 .i64 .i64 (n : Int) (n : Int) (by omega) (by omega)
    (by
      have h3 : ((i0.bytes * n : Nat) : Int) ≤ 281474976710656 := by rw [hz2]; omega
      rwa [Int.natCast_mul] at h3) (by omega)
  simp only [Int.toNat_natCast] at hr
  rw [hz1, made_u8] at hr
  simp [execOp, ho, hx, hy, hr]
set_option maxHeartbeats 8000000 in
set_option maxRecDepth 100000 in
/-- put, on a block of bytes (the slice may begin inside it) -/
theorem impl_put_int.raw (g off n cap at_ size : Nat) (L : List Int) (v : Int) (w : World) (hg : w.heap[g]? = some (.cells (nums .u8 L).toArray 5 (0, 0))) (hn : off + n ≤ L.length) (hat : at_ + size ≤ n) (h8 : size ≤ 8) (hL : L.length ≤ 1048576) :
    Calls Tryd.prog 48 #[.slice (some ⟨g, off, none⟩) n cap, .int .i64 (at_ : Int), .int .i64 (size : Int), .int .i64 v] w fun e w' => e = .returned (.tuple #[]) ∧ MT g w w' ∧ w'.heap[g]? = some (.cells (nums .u8 (L.take (off + at_) ++ leB v size ++ L.drop (off + at_ + size))).toArray 5 (0, 0)) := by
  have HG := Aside0.mk hg
  have HN := Aside0.mk hn
  have HAT := Aside0.mk hat
  have H8 := Aside0.mk h8
  have HL := Aside0.mk hL
  clear hg hn hat h8 hL
  go_enter Tryd.func48, Tryd.ntmps48
  go_wp2
  go_loopw [8, 10] (fun v8 v10 wr => ∃ (j : Nat) (u : Value), u = v8 ∧ v10 = .int .i64 (j : Int) ∧ Aside0 (j ≤ size) ∧ Aside0 (MT g w wr) ∧ Aside0 (wr.heap[g]? = some (.cells (nums .u8 (L.take (off + at_) ++ leB v j ++ L.drop (off + at_ + j))).toArray 5 (0, 0)))) (fun _ v10 _ => size - (intOf v10).toNat)
  case atStart => exact ⟨0, _, rfl, rfl, ⟨Nat.zero_le _⟩, ⟨MT.refl _ _⟩, ⟨by simpa [leB] using HG.out⟩⟩
  case round =>
    obtain ⟨j, v8, rfl, rfl, hj, HM, HC⟩ := hrel
    by_cases c9 : j < size
    · have c9b0 : decide ((j : Int) < (size : Int)) = true := decide_eq_true (by omega)
      have c9b1 : decide (j < size) = true := decide_eq_true c9
      have hs8 := H8.out
      have hat2 := HAT.out
      have hn2 := HN.out
      have hl2 := HL.out
      have e1 : wrap64 ((at_ : Int) + (j : Int)) = ((at_ + j : Nat) : Int) := by unfold wrap64; omega
      have e2 : wrap64 (8 * (j : Int)) = ((8 * j : Nat) : Int) := by unfold wrap64; omega
      have q1 : (0 ≤ wrap64 ((at_ : Int) + (j : Int))) = True := eq_true (by rw [e1]; omega)
      have q2 : (wrap64 ((at_ : Int) + (j : Int)) < (n : Int)) = True := eq_true (by rw [e1]; omega)
      have q3 : (0 ≤ wrap64 (8 * (j : Int))) = True := eq_true (by rw [e2]; omega)
      have q4 : (wrap64 (8 * (j : Int)) < 0) = False := eq_false (by rw [e2]; omega)
      have q5 : decide (wrap64 (8 * (j : Int)) < 0) = false := decide_eq_false (by rw [e2]; omega)
      obtain ⟨M, hM⟩ : ∃ M, M = L.take (off + at_) ++ leB v j ++ L.drop (off + at_ + j) := ⟨_, rfl⟩
      have hml : M.length = L.length := by rw [hM, List.length_append, List.length_append, List.length_take, List.length_drop, leB_length]; omega
      have hc := HC.out
      rw [← hM] at hc
      have HC2 := Aside0.mk hc
      have HML := Aside0.mk (show off + (at_ + j) < M.length by rw [hml]; omega)
      have HMM := Aside0.mk hM
      have C9 := Aside0.mk c9
      have E1 := Aside0.mk e1
      have E2 := Aside0.mk e2
      clear hs8 hat2 hn2 hl2 hM hml hc HC c9 e1 e2
      go_wp2_with (first | ((with_reducible refine gate_store (t := 5) (p := 23) (v := .tmp 22) rfl ?_); refine st_num rfl rfl 5 (.tmp 23) (.tmp 22) rfl g (off + (at_ + j)) .u8 _ (by rw [E1.out]; rfl) rfl (by kernel_rfl) HC2.out HML.out ?_; intro w2 t2 g2))
      go_roundw
      case rel =>
        refine ⟨j + 1, _, rfl, by rw [show wrap64 ((j : Int) + 1) = ((j + 1 : Nat) : Int) by (have := C9.out; have := H8.out; unfold wrap64; omega)], ⟨by have := C9.out; omega⟩, ⟨HM.out.touch t2⟩, ⟨?_⟩⟩
        have hs8 := H8.out
        have hj2 := C9.out
        have hn2 := HN.out
        have ha2 := HAT.out
        have h_ := g2
        rw [byte_at v j (by omega), show off + (at_ + j) = (off + at_) + j by omega, set_next (p := off + at_) HMM.out (by omega), show off + at_ + (j + 1) = off + at_ + j + 1 by omega] at h_
        rw [show off + at_ + (j + 1) = off + at_ + j + 1 by omega]
        exact h_
      case measure =>
        rw [show wrap64 ((j : Int) + 1) = ((j + 1 : Nat) : Int) by (have := C9.out; have := H8.out; unfold wrap64; omega)]
        simp only [intOf, Int.toNat_natCast]
        have := C9.out
        omega
    · obtain rfl : j = size := by have := hj.out; omega
      have c9b0 : decide ((j : Int) < (j : Int)) = false := decide_eq_false (by omega)
      have c9b1 : decide (j < j) = false := decide_eq_false (by omega)
      clear c9
      go_wp2
      refine Go.Great.bodyPost_end0 rfl rfl ⟨rfl, HM.out, HC.out⟩
theorem impl_Root_put.rstep (s : Int) (xs L : List Int) (off j : Nat) (hx : xs.length = 14) (hj : j < 14) (hl : off + 64 ≤ L.length) (p : Int) (hp : p = xs.getD j 0) :
    let ls := L.take off ++ leB s 8 ++ flat4 (xs.take j) ++ L.drop (off + 8 + 4 * j)
    ls.take (off + (8 + 4 * j)) ++ leB p 4 ++ ls.drop (off + (8 + 4 * j) + 4) = L.take off ++ leB s 8 ++ flat4 (xs.take (j + 1)) ++ L.drop (off + 8 + 4 * (j + 1)) := by
  intro ls
  have h1 : (L.take off ++ leB s 8 ++ flat4 (xs.take j)).length = off + (8 + 4 * j) := by
    rw [List.length_append, List.length_append, leB_length, flat4_length, List.length_take, List.length_take, hx, Nat.min_eq_left (by omega), Nat.min_eq_left (by omega)]
    omega
  have e1 : ls.take (off + (8 + 4 * j)) = L.take off ++ leB s 8 ++ flat4 (xs.take j) := by rw [← h1]; exact List.take_left
  have e2 : ls.drop (off + (8 + 4 * j) + 4) = L.drop (off + 8 + 4 * (j + 1)) := by
    show (L.take off ++ leB s 8 ++ flat4 (xs.take j) ++ L.drop (off + 8 + 4 * j)).drop (off + (8 + 4 * j) + 4) = _
    rw [List.drop_append, h1, List.drop_eq_nil_of_le (by rw [h1]; omega), List.nil_append, List.drop_drop]
    congr 1
    omega
  rw [e1, e2, flat4_take xs j (by omega), hp, List.append_assoc (L.take off ++ leB s 8)]
theorem impl_Root_put.rlen (s : Int) (xs L : List Int) (off j : Nat) (hx : xs.length = 14) (hj : j < 14) (hl : off + 64 ≤ L.length) : (L.take off ++ leB s 8 ++ flat4 (xs.take j) ++ L.drop (off + 8 + 4 * j)).length = L.length := by
  rw [List.length_append, List.length_append, List.length_append, leB_length, flat4_length, List.length_take, List.length_take, hx, Nat.min_eq_left (by omega), Nat.min_eq_left (by omega), List.length_drop]
  omega
set_option maxHeartbeats 8000000 in
set_option maxRecDepth 100000 in
/-- Root.put, on a block of bytes (the slice may begin inside it) -/
theorem impl_Root_put.raw (a0 : List Int) (n0 : a0.length = 15) (hgood : rootGood a0 = true) (g off n cap : Nat) (L : List Int) (w : World) (hg : w.heap[g]? = some (.cells (nums .u8 L).toArray 5 (0, 0))) (hn : off + n ≤ L.length) (h64 : 64 ≤ n) (hL : L.length ≤ 1048576) :
    Calls Tryd.prog 49 #[.agg (nums .i64 a0).toArray, .slice (some ⟨g, off, none⟩) n cap] w fun e w' => e = .returned (.tuple #[]) ∧ MT g w w' ∧ w'.heap[g]? = some (.cells (nums .u8 (L.take off ++ rootBytes a0 ++ L.drop (off + 64))).toArray 5 (0, 0)) := by
  have N_ := Aside0.mk n0
  have HG := Aside0.mk hgood
  have HN := Aside0.mk hn
  have H64 := Aside0.mk h64
  have HL := Aside0.mk hL
  have HC0 := Aside0.mk hg
  have hgl := blk_lt hg
  have HGL := Aside0.mk hgl
  clear n0 hgood hn h64 hL hg
  obtain ⟨s, hs⟩ : ∃ s, s = a0.getD 0 0 := ⟨_, rfl⟩
  have HS := Aside0.mk hs
  clear hs
  obtain ⟨xs, hxs⟩ : ∃ xs, xs = seg a0 1 14 := ⟨_, rfl⟩
  have HP := Aside0.mk (show impl_Root_pointers.f a0 = some xs by rw [hxs]; exact if_pos N_.out)
  have HXL := Aside0.mk (show xs.length = 14 by rw [hxs]; exact part_len (n := 15) N_.out (by decide))
  have HXS := Aside0.mk hxs
  clear hxs
  have hu31 := Tryd.underlying31
  have HB0 : Aside0 (Below w.heap.size w w) := ⟨Below.refl _ _⟩
  obtain ⟨s0, Sz0⟩ : ∃ s0, Aside0 (w.heap.size = s0) := ⟨_, ⟨rfl⟩⟩
  have hw0 : w.heap.size ≤ s0 := Nat.le_of_eq Sz0.out
  have hw1 : s0 ≤ w.heap.size := Nat.le_of_eq Sz0.out.symm
  have hgs : g < s0 := by omega
  clear hgl
  go_enter Tryd.func49, Tryd.ntmps49
  go_wp2_with (first | ((with_reducible refine gate_dst (N := 2) rfl ?_); refine hx_box rfl 2 rfl 31 (.tmp 0) rfl Sz0 (.agg (nums .i64 a0).toArray) (nums .i64 a0).toArray rfl rfl ?_; intro w1 s1 L1 Sz1 b1 g_; have H1 := Aside0.mk g_; have HC1 := Aside0.mk (blk_below HC0.out b1); have M1 := Aside0.mk (MT.of_below (g := g) b1); clear g_ b1 HB0 HC0) | ((with_reducible refine gate_dst (N := 8) rfl ?_); refine hx_loadf rfl 3 (.tmp 7) rfl s0 0 rfl Tryd.underlying3 rfl H1.out (lt_len (n := 15) N_.out (by decide)) ?_; rw [← HS.out]) | ((with_reducible refine gate_dst (N := 9) rfl ?_); refine goesL_ (some 9) rfl rfl Tryd.func48 (by kernel_rfl) rfl #[.slice (some ⟨g, off, none⟩) n cap, .int .i64 0, .int .i64 8, .int .i64 s] rfl (by (try simp only [List.map_toArray, List.map_cons, List.map_nil]); first | done | rfl) ?_; refine (impl_put_int.raw g off n cap 0 8 L s w1 HC1.out HN.out (by have := H64.out; omega) (by decide) HL.out).mono ?_; rintro e_ w2 ⟨rfl, m_, g_⟩; refine ⟨_, rfl, ?_⟩; have H2 := Aside0.mk (m_.blk (show s0 ≠ g by omega) H1.out); have HC2 := Aside0.mk g_; have M2 := Aside0.mk (M1.out.trans m_); obtain ⟨s2, L2, Sz2⟩ := size_letter Sz1 m_.kept; clear m_ g_ H1 HC1 M1) | ((with_reducible refine gate_dst (N := 10) rfl ?_); refine hx_load rfl 31 (.tmp 2) rfl s0 15 rfl Tryd.underlying31 rfl (by kernel_rfl) H2.out (nums_size _ _ _ N_.out) ?_) | ((with_reducible refine gate_dst (N := 11) rfl ?_); refine goesL_ (some 11) rfl rfl Tryd.func80 (by kernel_rfl) rfl #[.agg (nums .i64 a0).toArray] rfl (by (try simp only [List.map_toArray, List.map_cons, List.map_nil]); first | done | rfl) ?_; refine (impl_Root_pointers.calls a0 N_.out xs _ HP.out).mono ?_; rintro e_ w3 ⟨v0_, rfl, R_, b_⟩; obtain ⟨A11, c11, rfl⟩ := Kd.R_slice R_; refine ⟨_, rfl, ?_⟩; obtain ⟨s3, L3, Sz3⟩ := size_letter Sz2 (kept_below b_); have OP := own_btw (B := 0) R_ Sz2.out Sz3 (Nat.zero_le _); have HC3 := Aside0.mk (blk_below HC2.out b_); have M3 := Aside0.mk (M2.out.then_ b_); clear R_ b_ HC2 M2 H2))
  (try simp only [Act.put, List.setIfInBounds_toArray, List.set_cons_succ, List.set_cons_zero])
  go_loopw [4, 5, 13] (fun v4 v5 v13 wr => ∃ (j : Nat) (u4 u5 : Value), u4 = v4 ∧ u5 = v5 ∧ v13 = .int .i64 (j : Int) ∧ Aside0 (j ≤ 14) ∧ Aside0 (wr.heap[g]? = some (.cells (nums .u8 (L.take off ++ leB s 8 ++ flat4 (xs.take j) ++ L.drop (off + 8 + 4 * j))).toArray 5 (0, 0))) ∧ Aside0 (Kd.R (Kd.int .i64) 3 wr 0 (Btw s2 s3) (.slice A11 xs.length c11) xs) ∧ Aside0 (MT g w wr)) (fun _ _ v13 _ => 14 - (intOf v13).toNat)
  case atStart => exact ⟨0, _, _, rfl, rfl, rfl, ⟨by omega⟩, ⟨by have := HC3.out; simpa [flat4] using this⟩, OP, M3⟩
  case round =>
    clear HC3 OP M3
    obtain ⟨j, v4, v5, rfl, rfl, rfl, hj, HC, OP, HM⟩ := hrel
    by_cases c9 : j < 14
    · have c9b0 : decide ((j : Int) < (xs.length : Int)) = true := decide_eq_true (by rw [HXL.out]; omega)
      have c9b1 : decide (j < xs.length) = true := decide_eq_true (by rw [HXL.out]; omega)
      have p112 : 0 ≤ (j : Int) := by omega
      have q112 : (j : Int) < (xs.length : Int) := by rw [HXL.out]; omega
      obtain ⟨ad112, e112, hx112⟩ := Kd.at_int (Kd.R_reads' OP.out).2.2 (j : Int) p112 q112
      cases e112
      rw [Int.toNat_natCast] at hx112
      replace p112 := eq_true p112
      replace q112 := eq_true q112
      have q113 : (j < xs.length) = True := eq_true (by rw [HXL.out]; omega)
      obtain ⟨p, hp⟩ : ∃ p, p = rd xs (j : Int) := ⟨_, rfl⟩
      rw [← hp] at hx112
      have HPV := Aside0.mk (show p = xs.getD j 0 by rw [hp, rd, Int.toNat_natCast])
      obtain ⟨ls, hls⟩ : ∃ ls, ls = L.take off ++ leB s 8 ++ flat4 (xs.take j) ++ L.drop (off + 8 + 4 * j) := ⟨_, rfl⟩
      have HLL := Aside0.mk (show ls.length = L.length by rw [hls]; exact impl_Root_put.rlen s xs L off j HXL.out c9 (by have h1_ := HN.out; have h2_ := H64.out; omega))
      have HAT := Aside0.mk (impl_Root_put.at_ j c9)
      have hc := HC.out
      rw [← hls] at hc
      have HC4 := Aside0.mk hc
      have HLS := Aside0.mk hls
      have C9 := Aside0.mk c9
      clear hp c9 hls hc HC
      go_wp2_with (first | ((with_reducible refine gate_dst (N := 23) rfl ?_); refine goesL_ (some 23) rfl rfl Tryd.func48 (by kernel_rfl) rfl #[.slice (some ⟨g, off, none⟩) n cap, .int .i64 ((8 + 4 * j : Nat) : Int), .int .i64 4, .int .i64 p] rfl (by (try simp only [List.map_toArray, List.map_cons, List.map_nil]); first | done | rfl | (rw [← HAT.out]; rfl)) ?_; refine (impl_put_int.raw g off n cap (8 + 4 * j) 4 ls p _ HC4.out (by rw [HLL.out]; exact HN.out) (by have h1_ := H64.out; have h2_ := C9.out; omega) (by decide) (by rw [HLL.out]; exact HL.out)).mono ?_; rintro e_ w4 ⟨rfl, m_, g_⟩; refine ⟨_, rfl, ?_⟩; have HC5 := Aside0.mk g_; have M5 := Aside0.mk (HM.out.trans m_); have OP5 := Aside0.mk (m_.R OP.out (fun k hk => by have h1_ := hk.1; omega)); clear m_ g_ HC4 HM OP))
      go_roundw
      case rel =>
        refine ⟨j + 1, _, _, rfl, rfl, by rw [show wrap64 ((j : Int) + 1) = ((j + 1 : Nat) : Int) by (have := C9.out; unfold wrap64; omega)], ⟨by have := C9.out; omega⟩, ⟨?_⟩, OP5, M5⟩
        have ho := HC5.out
        have e_ := impl_Root_put.rstep s xs L off j HXL.out C9.out (by have h1_ := HN.out; have h2_ := H64.out; omega) p HPV.out
        simp only [] at e_
        rw [← HLS.out] at e_
        rw [e_] at ho
        exact ho
      case measure =>
        rw [show wrap64 ((j : Int) + 1) = ((j + 1 : Nat) : Int) by (have := C9.out; unfold wrap64; omega)]
        simp only [intOf, Int.toNat_natCast]
        have := C9.out
        omega
    · obtain rfl : j = 14 := by have := hj.out; omega
      have c9b0 : decide ((14 : Int) < (xs.length : Int)) = false := decide_eq_false (by rw [HXL.out]; decide)
      have c9b1 : decide (14 < xs.length) = false := decide_eq_false (by rw [HXL.out]; decide)
      go_wp2
      have ho := HC.out
      rw [show xs.take 14 = xs from List.take_of_length_le (by rw [HXL.out]; exact Nat.le_refl _), HXS.out, HS.out, List.append_assoc (L.take off)] at ho
      refine Go.Great.bodyPost_end0 rfl rfl ⟨rfl, HM.out, ho⟩
open Go.Proofs.YtkghgjehjchajaaDoorW.PrintLe Go.Proofs.YtkghgjehjchajaaDoorW.PrintGrow Go.Proofs.YtkghgjehjchajaaDoorW.PrintIno Go.Proofs.YtkghgjehjchajaaDoorW.PrintTab2 Go.Proofs.YtkghgjehjchajaaDoorW.PrintTab3 Go.Proofs.YtkghgjehjchajaaDoorW.PrintFsi Go.Proofs.YtkghgjehjchajaaDoorW.PrintFsb Go.Proofs.YtkghgjehjchajaaDoorW.PrintCrc
theorem implCrc_l1 (l : List Int) (x8 : Int) : ∀ (d i k n : Nat), i + d = 8 → n < 4294967296 → impl_Crc32.l1 (k + d + 1) (n : Int) l (l.length : Int) x8 (i : Int) = impl_Crc32.l0 k ((stepN d n : Nat) : Int) l (l.length : Int) (wrap64 (x8 + 1))
  | 0, i, k, n, h1, h3 => by
    simp only [impl_Crc32.l1]
    rw [if_neg (by omega)]
    rfl
  | d + 1, i, k, n, h1, h3 => by
    have ea := and1_u32 n h3
    have e2 : (n : Int) / 2 = ((n / 2 : Nat) : Int) := by omega
    have hv : Go.bits .xor .u32 ((n : Int) / 2) (Go.bits .and .u32 3988292384 ((-(Go.bits .and .u32 (n : Int) 1)) % 4294967296)) = ((stepB n : Nat) : Int) := by
      rw [ea, e2]
      by_cases hp : n % 2 = 1
      · rw [hp, show (-((1 : Nat) : Int)) % 4294967296 = 4294967295 by omega, show Go.bits .and .u32 3988292384 4294967295 = ((3988292384 : Nat) : Int) by decide +kernel, xor_nat _ _ (by omega) (by omega)]
        simp only [stepB, if_pos hp]
      · rw [show n % 2 = 0 by omega, show (-((0 : Nat) : Int)) % 4294967296 = 0 by omega, show Go.bits .and .u32 3988292384 0 = ((0 : Nat) : Int) by decide +kernel, xor_nat _ _ (by omega) (by omega)]
        simp only [stepB, if_neg hp]
    rw [show k + (d + 1) + 1 = (k + d + 1) + 1 by omega, impl_Crc32.l1, if_pos (by omega), hv, w64n (by omega), implCrc_l1 l x8 d (i + 1) k _ (by omega) (stepB_lt h3)]
    rfl
theorem implCrc_l0 (l : List Int) (hb : ∀ x ∈ l, 0 ≤ x ∧ x ≤ 255) (hl : l.length ≤ 1048576) : ∀ (d i k n : Nat), i + d = l.length → 10 * d + 10 < k → n < 4294967296 → impl_Crc32.l0 k (n : Int) l (l.length : Int) (i : Int) = some (Go.bits .xor .u32 4294967295 ((crcI n (nats (l.drop i)) : Nat) : Int))
  | 0, i, k, n, h1, h2, h3 => by
    obtain ⟨k, rfl⟩ := sucK h2
    simp only [impl_Crc32.l0]
    rw [if_neg (by omega), List.drop_eq_nil_of_le (by omega)]
    rfl
  | d + 1, i, k, n, h1, h2, h3 => by
    obtain ⟨k, rfl⟩ : ∃ j, k = (j + 8 + 1) + 1 := ⟨k - 10, by omega⟩
    have hi : i < l.length := by omega
    have hx := hb _ (List.getElem_mem hi)
    obtain ⟨c, hc⟩ := Int.eq_ofNat_of_zero_le hx.1
    have hc8 : c < 256 := by omega
    have hlt : n ^^^ c < 2 ^ 32 := Nat.xor_lt_two_pow (by omega) (by omega)
    rw [impl_Crc32.l0]
    rw [if_pos (by omega), if_pos (by omega), if_pos (by omega), rd_some hi, hc, show (c : Int) % 4294967296 = (c : Int) by omega, xor_nat _ _ h3 (by omega)]
    have h := implCrc_l1 l (i : Int) 8 0 k (n ^^^ c) rfl (by omega)
    rw [show ((0 : Nat) : Int) = 0 from rfl] at h
    rw [h, w64n (by omega), implCrc_l0 l hb hl d (i + 1) k _ (by omega) (by omega) (stepN_lt 8 (by omega)), List.drop_eq_getElem_cons hi]
    simp only [nats, List.map_cons, hc, Int.toNat_natCast, crcI]
theorem implCrc_f (l : List Int) (hb : ∀ x ∈ l, 0 ≤ x ∧ x ≤ 255) (hl : l.length ≤ 1048576) (k : Nat) (hk : 10 * l.length + 10 < k) : impl_Crc32.f k l = some (Go.bits .xor .u32 4294967295 ((crcI 4294967295 (nats l) : Nat) : Int)) := by
  unfold impl_Crc32.f
  exact implCrc_l0 l hb hl l.length 0 k 4294967295 (by omega) hk (by omega)
theorem implCrc_v (l : List Int) (hb : ∀ x ∈ l, 0 ≤ x ∧ x ≤ 255) (hl : l.length ≤ 1048576) (k : Nat) (hk : 10 * l.length + 10 < k) : impl_Crc32.f k l = some (crcV l) := by
  have hlt := crcI_lt (nats l) (nats_byt hb) 4294967295 (by omega)
  have e : (4294967295 : Int) = ((4294967295 : Nat) : Int) := rfl
  rw [implCrc_f l hb hl k hk, e, xor_nat _ _ (by omega) hlt, Nat.xor_comm 4294967295]
  rfl
theorem put32_l0 (v : Int) (at_ size : Nat) (h0 : 0 ≤ v) (h1 : v ≤ 9223372036854775807) (h8 : size ≤ 8) : ∀ (d i k : Nat) (x0 : List Int), i + d = size → d < k → at_ + size ≤ x0.length → x0.length ≤ 1048576 → impl_put_uint32.l0 k x0 (at_ : Int) v (size : Int) (i : Int) = some (x0.take (at_ + i) ++ leB (v / 256 ^ i) d ++ x0.drop (at_ + size))
  | 0, i, k, x0, e1, e2, e3, e4 => by
    obtain ⟨k, rfl⟩ := sucK e2
    simp only [impl_put_uint32.l0]
    rw [if_neg (by omega), show at_ + i = at_ + size by omega]
    simp [leB]
  | d + 1, i, k, x0, e1, e2, e3, e4 => by
    obtain ⟨k, rfl⟩ := sucK e2
    simp only [impl_put_uint32.l0]
    have hw : wrap64 ((at_ : Int) + (i : Int)) = ((at_ + i : Nat) : Int) := by unfold wrap64; omega
    have h8i : wrap64 (8 * (i : Int)) = ((8 * i : Nat) : Int) := by unfold wrap64; omega
    rw [hw, h8i, if_pos (by omega), if_pos (by omega), if_pos (by omega), if_pos (by omega), w64n (by omega), put32_l0 v at_ size h0 h1 h8 d (i + 1) k _ (by omega) (by omega) (by simpa using e3) (by simpa using e4)]
    have hv : (shr .u64 (IntKind.u64.wrap v) ((8 * i : Nat) : Int)) % 256 = v / 256 ^ i % 256 := by
      rw [wraps_u64 _ h0 (by omega)]
      unfold shr
      rw [Int.toNat_natCast, Nat.min_eq_left (by simp [IntKind.bits]; omega), Int.pow_mul, show (2 : Int) ^ 8 = 256 by decide]
    rw [hv, Int.toNat_natCast]
    congr 1
    have hlt : at_ + i < x0.length := by omega
    rw [show at_ + (i + 1) = (at_ + i) + 1 by omega, List.take_succ_eq_append_getElem (by simpa using hlt), List.getElem_set_self, List.take_set_of_le (Nat.le_refl _), List.drop_set_of_lt (by omega), leB, Int.ediv_ediv_of_nonneg (by have := p256 i; omega), ← Int.pow_succ]
    simp
/-- put: a number's bytes at a place -/
theorem put32_f (x0 : List Int) (at_ size : Nat) (v : Int) (h0 : 0 ≤ v) (h1 : v ≤ 9223372036854775807) (h8 : size ≤ 8) (hat : at_ + size ≤ x0.length) (hx : x0.length ≤ 1048576) (k : Nat) (hk : 8 < k) : impl_put_uint32.f k x0 (at_ : Int) (size : Int) v = some (x0.take at_ ++ leB v size ++ x0.drop (at_ + size)) := by
  unfold impl_put_uint32.f
  have h := put32_l0 v at_ size h0 h1 h8 size 0 k x0 (by omega) (by omega) hat hx
  rw [Int.pow_zero, Int.ediv_one] at h
  exact h
theorem impl_EncodeFsinfo.sealed {a0 : List Int} (h : a0.length = 68) : impl_sealed.f 6000 (fsBody a0 ++ List.replicate (336 - 4 * 31) 0) = some (fsFill a0 ++ leB (crcV (fsFill a0)) 4) := by
  have hb := fsFill_byt a0
  have hl := fsFill_length h
  have hr := crcV_range hb
  have hbl := fsBody_length h
  have ht : (fsBody a0 ++ List.replicate (336 - 4 * 31) 0).take 508 = fsFill a0 := by
    rw [List.take_append, List.take_of_length_le (by rw [hbl]; decide), hbl, List.take_replicate]
    rfl
  unfold impl_sealed.f
  rw [if_pos (by rw [List.length_append, hbl, List.length_replicate]; decide), ht, implCrc_v (fsFill a0) hb (by rw [hl]; decide) 6000 (by rw [hl]; decide)]
  simp only [Option.bind_some]
  rw [show (508 : Int) = ((508 : Nat) : Int) from rfl, show (4 : Int) = ((4 : Nat) : Int) from rfl, put32_f _ 508 4 (crcV (fsFill a0)) hr.1 (by omega) (by decide) (by rw [List.length_append, hbl, List.length_replicate]; decide) (by rw [List.length_append, hbl, List.length_replicate]; decide) 6000 (by decide)]
  simp only [Option.bind_some]
  rw [ht, List.drop_eq_nil_of_le (by rw [List.length_append, hbl, List.length_replicate]; decide), List.append_nil]
def impl_EncodeFsinfo.f (a0 : List Int) : Option (List Int × Int) := some (if fsGood a0 = true then (fsFill a0 ++ leB (crcV (fsFill a0)) 4, 0) else ([], 7))
set_option maxHeartbeats 8000000 in
set_option maxRecDepth 100000 in
theorem impl_EncodeFsinfo.calls (a0 : List Int) (n0 : a0.length = 68) (r1 : List Int) (r2 : Int) (w : World) (hv : Kd.C (Kd.int .u8) w (some ⟨1, 0, none⟩) 8 magicF) (h : impl_EncodeFsinfo.f a0 = some (r1, r2)) :
    Calls Tryd.prog 22 #[.agg (nums .i64 a0).toArray] w fun e w' => ∃ v0_ : Value, e = .returned (.tuple #[v0_, .int .i64 r2]) ∧ Kd.R (Kd.int .u8) 5 w' w.heap.size (fun _ => True) v0_ r1 ∧ Below w.heap.size w w' := by
  unfold impl_EncodeFsinfo.f at h
  have HV := Aside0.mk hv
  have N_ := Aside0.mk n0
  have HB0 : Aside0 (Below w.heap.size w w) := ⟨Below.refl _ _⟩
  obtain ⟨s0, Sz0⟩ : ∃ s0, Aside0 (w.heap.size = s0) := ⟨_, ⟨rfl⟩⟩
  have hw0 : w.heap.size ≤ s0 := Nat.le_of_eq Sz0.out
  have hw1 : s0 ≤ w.heap.size := Nat.le_of_eq Sz0.out.symm
  by_cases hgood : fsGood a0 = true
  case neg =>
    rw [if_neg hgood] at h
    simp only [Option.some.injEq, Prod.mk.injEq] at h
    obtain ⟨rfl, rfl⟩ := h
    have HG := Aside0.mk (show impl_Fsinfo_right.f a0 = some false by rw [show false = fsGood a0 by simpa using hgood]; rfl)
    clear hgood n0 hv
    go_enter Tryd.func22, Tryd.ntmps22
    go_wp2_with (first | ((with_reducible refine gate_dst (N := 1) rfl ?_); refine hx_box rfl 1 rfl 48 (.tmp 0) rfl Sz0 (.agg (nums .i64 a0).toArray) (nums .i64 a0).toArray rfl rfl ?_; intro w1 s1 L1 Sz1 b1 g_; have H_1 := Aside0.mk g_; have HB1 := Aside0.mk (below_then HB0.out HB0.out.size b1); clear g_ HB0 b1) | ((with_reducible refine gate_dst (N := 7) rfl ?_); refine hx_load rfl 48 (.tmp 1) rfl s0 68 rfl Tryd.underlying48 rfl (by kernel_rfl) H_1.out (nums_size _ _ _ N_.out) ?_) | ((with_reducible refine gate_dst (N := 8) rfl ?_); refine goesL_ (some 8) rfl rfl Tryd.func58 (by kernel_rfl) rfl #[.agg (nums .i64 a0).toArray] rfl (by (try simp only [List.map_toArray, List.map_cons, List.map_nil]); first | done | rfl) ?_; refine (impl_Fsinfo_right.calls a0 N_.out false _ HG.out).mono ?_; rintro e_ w2 ⟨rfl, b_⟩; refine ⟨_, rfl, ?_⟩; have HB2 := Aside0.mk (below_then HB1.out HB1.out.size b_); have H_2 := Aside0.mk (blk_below H_1.out b_); obtain ⟨s2, L2, Sz2⟩ := size_letter Sz1 (kept_below b_); clear b_ HB1 H_1))
    go_ret2
    exact ⟨_, rfl, Kd.R_nil _ _ _ _ _, HB2.out⟩
  rw [if_pos hgood] at h
  simp only [Option.some.injEq, Prod.mk.injEq] at h
  obtain ⟨rfl, rfl⟩ := h
  have HG := Aside0.mk (show impl_Fsinfo_right.f a0 = some true by rw [← hgood]; rfl)
  have HHL := Aside0.mk (fsHead_length n0)
  have HSE := Aside0.mk (impl_EncodeFsinfo.sealed n0)
  obtain ⟨g0, g1, g2, g3, g4, g5, g6, g7, g8, g9⟩ := fsGood_get hgood
  have GS := Aside0.mk (fun j hj => fsS_get hgood n0 j hj)
  have info5_ : (Tryd.prog.info? 5).map (fun i => (i.zero, i.size, i.bytes)) = some (some (.int .u8 0), 1, 1) := by kernel_rfl
  clear hgood hv
  obtain ⟨x0, hx0⟩ : ∃ x, x = a0.getD 0 0 := ⟨_, rfl⟩
  obtain ⟨x1, hx1⟩ : ∃ x, x = a0.getD 1 0 := ⟨_, rfl⟩
  obtain ⟨x2, hx2⟩ : ∃ x, x = a0.getD 2 0 := ⟨_, rfl⟩
  obtain ⟨x3, hx3⟩ : ∃ x, x = a0.getD 3 0 := ⟨_, rfl⟩
  obtain ⟨x4, hx4⟩ : ∃ x, x = a0.getD 4 0 := ⟨_, rfl⟩
  obtain ⟨x5, hx5⟩ : ∃ x, x = a0.getD 5 0 := ⟨_, rfl⟩
  obtain ⟨x6, hx6⟩ : ∃ x, x = a0.getD 6 0 := ⟨_, rfl⟩
  obtain ⟨xi, hxi⟩ : ∃ x, x = fsI a0 := ⟨_, rfl⟩
  have NXI := Aside0.mk (show xi.length = 15 by rw [hxi]; exact fsI_length n0)
  obtain ⟨xm, hxm⟩ : ∃ x, x = fsM a0 := ⟨_, rfl⟩
  have NXM := Aside0.mk (show xm.length = 15 by rw [hxm]; exact fsM_length n0)
  obtain ⟨xs, hxs⟩ : ∃ x, x = fsS a0 := ⟨_, rfl⟩
  have NXS := Aside0.mk (show xs.length = 31 by rw [hxs]; exact fsS_length n0)
  rw [← hxi] at g7
  rw [← hxm] at g8
  rw [← hxs] at GS
  have G7 := Aside0.mk g7
  have G8 := Aside0.mk g8
  obtain ⟨fl, hfl⟩ : ∃ fl, fl = fsHead a0 := ⟨_, rfl⟩
  rw [← hfl] at HHL
  have HFL := Aside0.mk hfl
  have X0 := Aside0.mk hx0
  have X1 := Aside0.mk hx1
  have X2 := Aside0.mk hx2
  have X3 := Aside0.mk hx3
  have X4 := Aside0.mk hx4
  have X5 := Aside0.mk hx5
  have X6 := Aside0.mk hx6
  have XI := Aside0.mk hxi
  have XM := Aside0.mk hxm
  have XS := Aside0.mk hxs
  clear n0 hx0 hx1 hx2 hx3 hx4 hx5 hx6 hxi hxm hxs hfl g0 g1 g2 g3 g4 g5 g6 g7 g8 g9
  go_enter Tryd.func22, Tryd.ntmps22
  go_wp2_with (first | ((with_reducible refine gate_dst (N := 1) rfl ?_); refine hx_box rfl 1 rfl 48 (.tmp 0) rfl Sz0 (.agg (nums .i64 a0).toArray) (nums .i64 a0).toArray rfl rfl ?_; intro w1 s1 L1 Sz1 b1 g_; have H_1 := Aside0.mk g_; have HB1 := Aside0.mk (below_then HB0.out HB0.out.size b1); clear g_ HB0 b1) | ((with_reducible refine gate_dst (N := 7) rfl ?_); refine hx_load rfl 48 (.tmp 1) rfl s0 68 rfl Tryd.underlying48 rfl (by kernel_rfl) H_1.out (nums_size _ _ _ N_.out) ?_) | ((with_reducible refine gate_dst (N := 8) rfl ?_); refine goesL_ (some 8) rfl rfl Tryd.func58 (by kernel_rfl) rfl #[.agg (nums .i64 a0).toArray] rfl (by (try simp only [List.map_toArray, List.map_cons, List.map_nil]); first | done | rfl) ?_; refine (impl_Fsinfo_right.calls a0 N_.out true _ HG.out).mono ?_; rintro e_ w2 ⟨rfl, b_⟩; refine ⟨_, rfl, ?_⟩; have HB2 := Aside0.mk (below_then HB1.out HB1.out.size b_); have H_2 := Aside0.mk (blk_below H_1.out b_); obtain ⟨s2, L2, Sz2⟩ := size_letter Sz1 (kept_below b_); clear b_ HB1 H_1) | ((with_reducible refine gate_dst (N := 10) rfl ?_); refine make_num rfl (N := 10) rfl 512 5 .u8 Sz2 ?hr ?_; (case hr => exact make_u8 28 5 512 _ _ rfl rfl rfl Tryd.underlying28 info5_ (by decide)); intro w3 s3 L3 Sz3 b_ g_; have HB3 := Aside0.mk (below_then HB2.out HB2.out.size b_); have H_3 := Aside0.mk (blk_below H_2.out b_); obtain ⟨Q0, hq0⟩ : ∃ Q, Q = List.replicate 512 (0 : Int) := ⟨_, rfl⟩; rw [← hq0] at g_; have HC_3 := Aside0.mk g_; have E0 := Aside0.mk hq0; have N0 := Aside0.mk (show Q0.length = 512 by rw [hq0]; simp); clear b_ g_ hq0 HB2 H_2) | ((with_reducible refine gate_dst (N := 13) rfl ?_); refine cp_num rfl (.tmp 11) (.tmp 12) 28 28 rfl 5 Tryd.underlying28 (by kernel_rfl) s2 0 512 512 (some ⟨1, 0, none⟩) 8 magicF Q0 rfl rfl HC_3.out (by decide) (by decide) (by rw [N0.out]; decide) (Kd.C_below HV.out (HB3.out)) ?_; intro w4 t_ g_; change w4.heap[s2]? = some (.cells (nums .u8 (Q0.take 0 ++ magicF ++ Q0.drop (0 + 8))).toArray 5 (0, 0)) at g_; have m_ := (MT.refl s2 w3).touch t_; obtain ⟨Q1, hq_⟩ : ∃ Q, Q = Q0.take (0) ++ magicF ++ Q0.drop (0 + 8) := ⟨_, rfl⟩; rw [← hq_] at g_; have N1 := Aside0.mk (show Q1.length = 512 by rw [hq_, List.length_append, List.length_append, List.length_take, List.length_drop, show magicF.length = 8 from rfl, N0.out]; decide); have E1 := Aside0.mk hq_; have HC_4 := Aside0.mk g_; have H_4 := Aside0.mk (m_.blk (show s0 ≠ s2 by omega) H_3.out); have M_4 := Aside0.mk m_; clear m_ g_ t_ hq_ HC_3 H_3) | ((with_reducible refine gate_dst (N := 16) rfl ?_); refine hx_loadf rfl 3 (.tmp 15) rfl s0 0 rfl Tryd.underlying3 rfl H_4.out (lt_len (n := 68) N_.out (by decide)) ?_; rw [← X0.out]) | ((with_reducible refine gate_dst (N := 17) rfl ?_); refine goesL_ (some 17) rfl rfl Tryd.func48 (by kernel_rfl) rfl #[.slice (some ⟨s2, 0, none⟩) 512 512, .int .i64 8, .int .i64 8, .int .i64 x0] rfl (by (try simp only [List.map_toArray, List.map_cons, List.map_nil]); first | done | rfl) ?_; refine (impl_put_int.raw s2 0 512 512 8 8 Q1 x0 w4 HC_4.out (by rw [N1.out]; decide) (by decide) (by decide) (by rw [N1.out]; decide)).mono ?_; rintro e_ w5 ⟨rfl, m_, g_⟩; refine ⟨_, rfl, ?_⟩; obtain ⟨Q2, hq_⟩ : ∃ Q, Q = Q1.take (0 + 8) ++ leB x0 8 ++ Q1.drop (0 + 8 + 8) := ⟨_, rfl⟩; rw [← hq_] at g_; have N2 := Aside0.mk (show Q2.length = 512 by rw [hq_, List.length_append, List.length_append, List.length_take, List.length_drop, leB_length, N1.out]; decide); have E2 := Aside0.mk hq_; have HC_5 := Aside0.mk g_; have H_5 := Aside0.mk (m_.blk (show s0 ≠ s2 by omega) H_4.out); have M_5 := Aside0.mk (M_4.out.trans m_); clear m_ g_ hq_ HC_4 H_4 M_4) | ((with_reducible refine gate_dst (N := 20) rfl ?_); refine hx_loadf rfl 3 (.tmp 19) rfl s0 1 rfl Tryd.underlying3 rfl H_5.out (lt_len (n := 68) N_.out (by decide)) ?_; rw [← X1.out]) | ((with_reducible refine gate_dst (N := 21) rfl ?_); refine goesL_ (some 21) rfl rfl Tryd.func48 (by kernel_rfl) rfl #[.slice (some ⟨s2, 0, none⟩) 512 512, .int .i64 16, .int .i64 4, .int .i64 x1] rfl (by (try simp only [List.map_toArray, List.map_cons, List.map_nil]); first | done | rfl) ?_; refine (impl_put_int.raw s2 0 512 512 16 4 Q2 x1 w5 HC_5.out (by rw [N2.out]; decide) (by decide) (by decide) (by rw [N2.out]; decide)).mono ?_; rintro e_ w6 ⟨rfl, m_, g_⟩; refine ⟨_, rfl, ?_⟩; obtain ⟨Q3, hq_⟩ : ∃ Q, Q = Q2.take (0 + 16) ++ leB x1 4 ++ Q2.drop (0 + 16 + 4) := ⟨_, rfl⟩; rw [← hq_] at g_; have N3 := Aside0.mk (show Q3.length = 512 by rw [hq_, List.length_append, List.length_append, List.length_take, List.length_drop, leB_length, N2.out]; decide); have E3 := Aside0.mk hq_; have HC_6 := Aside0.mk g_; have H_6 := Aside0.mk (m_.blk (show s0 ≠ s2 by omega) H_5.out); have M_6 := Aside0.mk (M_5.out.trans m_); clear m_ g_ hq_ HC_5 H_5 M_5) | ((with_reducible refine gate_dst (N := 24) rfl ?_); refine hx_loadf rfl 3 (.tmp 23) rfl s0 2 rfl Tryd.underlying3 rfl H_6.out (lt_len (n := 68) N_.out (by decide)) ?_; rw [← X2.out]) | ((with_reducible refine gate_dst (N := 25) rfl ?_); refine goesL_ (some 25) rfl rfl Tryd.func48 (by kernel_rfl) rfl #[.slice (some ⟨s2, 0, none⟩) 512 512, .int .i64 20, .int .i64 4, .int .i64 x2] rfl (by (try simp only [List.map_toArray, List.map_cons, List.map_nil]); first | done | rfl) ?_; refine (impl_put_int.raw s2 0 512 512 20 4 Q3 x2 w6 HC_6.out (by rw [N3.out]; decide) (by decide) (by decide) (by rw [N3.out]; decide)).mono ?_; rintro e_ w7 ⟨rfl, m_, g_⟩; refine ⟨_, rfl, ?_⟩; obtain ⟨Q4, hq_⟩ : ∃ Q, Q = Q3.take (0 + 20) ++ leB x2 4 ++ Q3.drop (0 + 20 + 4) := ⟨_, rfl⟩; rw [← hq_] at g_; have N4 := Aside0.mk (show Q4.length = 512 by rw [hq_, List.length_append, List.length_append, List.length_take, List.length_drop, leB_length, N3.out]; decide); have E4 := Aside0.mk hq_; have HC_7 := Aside0.mk g_; have H_7 := Aside0.mk (m_.blk (show s0 ≠ s2 by omega) H_6.out); have M_7 := Aside0.mk (M_6.out.trans m_); clear m_ g_ hq_ HC_6 H_6 M_6) | ((with_reducible refine gate_dst (N := 28) rfl ?_); refine hx_loadf rfl 3 (.tmp 27) rfl s0 3 rfl Tryd.underlying3 rfl H_7.out (lt_len (n := 68) N_.out (by decide)) ?_; rw [← X3.out]) | ((with_reducible refine gate_dst (N := 29) rfl ?_); refine goesL_ (some 29) rfl rfl Tryd.func48 (by kernel_rfl) rfl #[.slice (some ⟨s2, 0, none⟩) 512 512, .int .i64 24, .int .i64 8, .int .i64 x3] rfl (by (try simp only [List.map_toArray, List.map_cons, List.map_nil]); first | done | rfl) ?_; refine (impl_put_int.raw s2 0 512 512 24 8 Q4 x3 w7 HC_7.out (by rw [N4.out]; decide) (by decide) (by decide) (by rw [N4.out]; decide)).mono ?_; rintro e_ w8 ⟨rfl, m_, g_⟩; refine ⟨_, rfl, ?_⟩; obtain ⟨Q5, hq_⟩ : ∃ Q, Q = Q4.take (0 + 24) ++ leB x3 8 ++ Q4.drop (0 + 24 + 8) := ⟨_, rfl⟩; rw [← hq_] at g_; have N5 := Aside0.mk (show Q5.length = 512 by rw [hq_, List.length_append, List.length_append, List.length_take, List.length_drop, leB_length, N4.out]; decide); have E5 := Aside0.mk hq_; have HC_8 := Aside0.mk g_; have H_8 := Aside0.mk (m_.blk (show s0 ≠ s2 by omega) H_7.out); have M_8 := Aside0.mk (M_7.out.trans m_); clear m_ g_ hq_ HC_7 H_7 M_7) | ((with_reducible refine gate_dst (N := 32) rfl ?_); refine hx_loadf rfl 3 (.tmp 31) rfl s0 4 rfl Tryd.underlying3 rfl H_8.out (lt_len (n := 68) N_.out (by decide)) ?_; rw [← X4.out]) | ((with_reducible refine gate_dst (N := 33) rfl ?_); refine goesL_ (some 33) rfl rfl Tryd.func48 (by kernel_rfl) rfl #[.slice (some ⟨s2, 0, none⟩) 512 512, .int .i64 32, .int .i64 8, .int .i64 x4] rfl (by (try simp only [List.map_toArray, List.map_cons, List.map_nil]); first | done | rfl) ?_; refine (impl_put_int.raw s2 0 512 512 32 8 Q5 x4 w8 HC_8.out (by rw [N5.out]; decide) (by decide) (by decide) (by rw [N5.out]; decide)).mono ?_; rintro e_ w9 ⟨rfl, m_, g_⟩; refine ⟨_, rfl, ?_⟩; obtain ⟨Q6, hq_⟩ : ∃ Q, Q = Q5.take (0 + 32) ++ leB x4 8 ++ Q5.drop (0 + 32 + 8) := ⟨_, rfl⟩; rw [← hq_] at g_; have N6 := Aside0.mk (show Q6.length = 512 by rw [hq_, List.length_append, List.length_append, List.length_take, List.length_drop, leB_length, N5.out]; decide); have E6 := Aside0.mk hq_; have HC_9 := Aside0.mk g_; have H_9 := Aside0.mk (m_.blk (show s0 ≠ s2 by omega) H_8.out); have M_9 := Aside0.mk (M_8.out.trans m_); clear m_ g_ hq_ HC_8 H_8 M_8) | ((with_reducible refine gate_dst (N := 36) rfl ?_); refine hx_loadf rfl 3 (.tmp 35) rfl s0 5 rfl Tryd.underlying3 rfl H_9.out (lt_len (n := 68) N_.out (by decide)) ?_; rw [← X5.out]) | ((with_reducible refine gate_dst (N := 37) rfl ?_); refine goesL_ (some 37) rfl rfl Tryd.func48 (by kernel_rfl) rfl #[.slice (some ⟨s2, 0, none⟩) 512 512, .int .i64 40, .int .i64 4, .int .i64 x5] rfl (by (try simp only [List.map_toArray, List.map_cons, List.map_nil]); first | done | rfl) ?_; refine (impl_put_int.raw s2 0 512 512 40 4 Q6 x5 w9 HC_9.out (by rw [N6.out]; decide) (by decide) (by decide) (by rw [N6.out]; decide)).mono ?_; rintro e_ w10 ⟨rfl, m_, g_⟩; refine ⟨_, rfl, ?_⟩; obtain ⟨Q7, hq_⟩ : ∃ Q, Q = Q6.take (0 + 40) ++ leB x5 4 ++ Q6.drop (0 + 40 + 4) := ⟨_, rfl⟩; rw [← hq_] at g_; have N7 := Aside0.mk (show Q7.length = 512 by rw [hq_, List.length_append, List.length_append, List.length_take, List.length_drop, leB_length, N6.out]; decide); have E7 := Aside0.mk hq_; have HC_10 := Aside0.mk g_; have H_10 := Aside0.mk (m_.blk (show s0 ≠ s2 by omega) H_9.out); have M_10 := Aside0.mk (M_9.out.trans m_); clear m_ g_ hq_ HC_9 H_9 M_9) | ((with_reducible refine gate_dst (N := 40) rfl ?_); refine hx_loadf rfl 3 (.tmp 39) rfl s0 6 rfl Tryd.underlying3 rfl H_10.out (lt_len (n := 68) N_.out (by decide)) ?_; rw [← X6.out]) | ((with_reducible refine gate_dst (N := 41) rfl ?_); refine goesL_ (some 41) rfl rfl Tryd.func48 (by kernel_rfl) rfl #[.slice (some ⟨s2, 0, none⟩) 512 512, .int .i64 44, .int .i64 4, .int .i64 x6] rfl (by (try simp only [List.map_toArray, List.map_cons, List.map_nil]); first | done | rfl) ?_; refine (impl_put_int.raw s2 0 512 512 44 4 Q7 x6 w10 HC_10.out (by rw [N7.out]; decide) (by decide) (by decide) (by rw [N7.out]; decide)).mono ?_; rintro e_ w11 ⟨rfl, m_, g_⟩; refine ⟨_, rfl, ?_⟩; obtain ⟨Q8, hq_⟩ : ∃ Q, Q = Q7.take (0 + 44) ++ leB x6 4 ++ Q7.drop (0 + 44 + 4) := ⟨_, rfl⟩; rw [← hq_] at g_; have N8 := Aside0.mk (show Q8.length = 512 by rw [hq_, List.length_append, List.length_append, List.length_take, List.length_drop, leB_length, N7.out]; decide); have E8 := Aside0.mk hq_; have HC_11 := Aside0.mk g_; have H_11 := Aside0.mk (m_.blk (show s0 ≠ s2 by omega) H_10.out); have M_11 := Aside0.mk (M_10.out.trans m_); clear m_ g_ hq_ HC_10 H_10 M_10))
  (try simp only [Act.put, List.setIfInBounds_toArray, List.set_cons_succ, List.set_cons_zero])
  refine PrintQTail.wp_region_quiet_tail 4 (by kernel_rfl) (by kernel_rfl) ?_
  simp only [List.take_succ_cons, List.take_zero, List.drop_succ_cons, List.drop_zero]
  quiet_step (fail)
  refine quiet_load_at rfl 31 (.tmp 42) rfl ⟨s0, 7, none⟩ rfl xi 15 Tryd.underlying31 rfl (by kernel_rfl) NXI.out (fun i hi => by have h_ := row_cell H_11.out (7 + i) (by rw [N_.out]; omega); rw [show (⟨s0, 7, none⟩ : Addr).add i = ⟨s0, 7 + i, none⟩ by unfold Addr.add; split <;> simp_all]; rw [XI.out]; unfold fsI; rw [seg_getD _ _ _ _ hi]; exact h_) ?_
  quiet_step (fail)
  quiet_step (fail)
  refine wpQuiet_nil ?_
  intro w_ hw_
  obtain ⟨nq12, rfl⟩ := hw_
  go_wp2_with (first | ((with_reducible refine gate_dst (N := 46) rfl ?_); refine goesL_ (some 46) rfl rfl Tryd.func49 (by kernel_rfl) rfl #[.agg (nums .i64 xi).toArray, .slice (some ⟨s2, 48, none⟩) 464 464] rfl (by (try simp only [List.map_toArray, List.map_cons, List.map_nil]); first | done | rfl) ?_; refine (impl_Root_put.raw xi NXI.out G7.out s2 48 464 464 Q8 _ (blk_drewN HC_11.out _) (by rw [N8.out]; decide) (by decide) (by rw [N8.out]; decide)).mono ?_; rintro e_ w12 ⟨rfl, m_, g_⟩; refine ⟨_, rfl, ?_⟩; obtain ⟨Q9, hq_⟩ : ∃ Q, Q = Q8.take (48) ++ rootBytes xi ++ Q8.drop (48 + 64) := ⟨_, rfl⟩; rw [← hq_] at g_; have N9 := Aside0.mk (show Q9.length = 512 by rw [hq_, List.length_append, List.length_append, List.length_take, List.length_drop, rootBytes_length NXI.out, N8.out]; decide); have E9 := Aside0.mk hq_; have HC_12 := Aside0.mk g_; have m2_ := ((MT.refl s2 w11).then_ (pw_below_drewN (Below.refl _ _) nq12)).trans m_; have H_12 := Aside0.mk (m2_.blk (show s0 ≠ s2 by omega) H_11.out); have M_12 := Aside0.mk (M_11.out.trans m2_); clear m_ m2_ g_ hq_ HC_11 H_11 M_11))
  (try simp only [Act.put, List.setIfInBounds_toArray, List.set_cons_succ, List.set_cons_zero])
  refine PrintQTail.wp_region_quiet_tail 4 (by kernel_rfl) (by kernel_rfl) ?_
  simp only [List.take_succ_cons, List.take_zero, List.drop_succ_cons, List.drop_zero]
  quiet_step (fail)
  refine quiet_load_at rfl 31 (.tmp 47) rfl ⟨s0, 22, none⟩ rfl xm 15 Tryd.underlying31 rfl (by kernel_rfl) NXM.out (fun i hi => by have h_ := row_cell H_12.out (22 + i) (by rw [N_.out]; omega); rw [show (⟨s0, 22, none⟩ : Addr).add i = ⟨s0, 22 + i, none⟩ by unfold Addr.add; split <;> simp_all]; rw [XM.out]; unfold fsM; rw [seg_getD _ _ _ _ hi]; exact h_) ?_
  quiet_step (fail)
  quiet_step (fail)
  refine wpQuiet_nil ?_
  intro w_ hw_
  obtain ⟨nq13, rfl⟩ := hw_
  go_wp2_with (first | ((with_reducible refine gate_dst (N := 51) rfl ?_); refine goesL_ (some 51) rfl rfl Tryd.func49 (by kernel_rfl) rfl #[.agg (nums .i64 xm).toArray, .slice (some ⟨s2, 112, none⟩) 400 400] rfl (by (try simp only [List.map_toArray, List.map_cons, List.map_nil]); first | done | rfl) ?_; refine (impl_Root_put.raw xm NXM.out G8.out s2 112 400 400 Q9 _ (blk_drewN HC_12.out _) (by rw [N9.out]; decide) (by decide) (by rw [N9.out]; decide)).mono ?_; rintro e_ w13 ⟨rfl, m_, g_⟩; refine ⟨_, rfl, ?_⟩; obtain ⟨Q10, hq_⟩ : ∃ Q, Q = Q9.take (112) ++ rootBytes xm ++ Q9.drop (112 + 64) := ⟨_, rfl⟩; rw [← hq_] at g_; have N10 := Aside0.mk (show Q10.length = 512 by rw [hq_, List.length_append, List.length_append, List.length_take, List.length_drop, rootBytes_length NXM.out, N9.out]; decide); have E10 := Aside0.mk hq_; have HC_13 := Aside0.mk g_; have m2_ := ((MT.refl s2 w12).then_ (pw_below_drewN (Below.refl _ _) nq13)).trans m_; have H_13 := Aside0.mk (m2_.blk (show s0 ≠ s2 by omega) H_12.out); have M_13 := Aside0.mk (M_12.out.trans m2_); clear m_ m2_ g_ hq_ HC_12 H_12 M_12) | ((with_reducible refine gate_dst (N := 53) rfl ?_); refine hx_loadp rfl 43 (.tmp 52) rfl s0 37 31 rfl Tryd.underlying43 rfl (by kernel_rfl) H_13.out (le_len (n := 68) N_.out (by decide)) ?_; rw [show seg a0 37 31 = xs from XS.out.symm]))
  (try simp only [Act.put, List.setIfInBounds_toArray, List.set_cons_succ, List.set_cons_zero])
  have hfin := fs_puts (a := a0) (Q0 := Q0) (Q1 := Q1) (Q2 := Q2) (Q3 := Q3) (Q4 := Q4) (Q5 := Q5) (Q6 := Q6) (Q7 := Q7) (Q8 := Q8) (Q9 := Q9) (Q10 := Q10) N_.out E0.out E1.out (by rw [← X0.out]; exact E2.out) (by rw [← X1.out]; exact E3.out) (by rw [← X2.out]; exact E4.out) (by rw [← X3.out]; exact E5.out) (by rw [← X4.out]; exact E6.out) (by rw [← X5.out]; exact E7.out) (by rw [← X6.out]; exact E8.out) (by rw [← XI.out]; exact E9.out) (by rw [← XM.out]; exact E10.out)
  rw [← HFL.out] at hfin
  have hc := HC_13.out
  rw [hfin] at hc
  have HC0 := Aside0.mk hc
  have M_0 := M_13
  clear hfin hc HC_13 M_13 H_13 E0 N0 E1 N1 E2 N2 E3 N3 E4 N4 E5 N5 E6 N6 E7 N7 E8 N8 E9 N9 E10 N10
  go_loopw [5, 6, 54] (fun v5 v6 v54 wr => ∃ (j : Nat) (u5 u6 : Value), u5 = v5 ∧ u6 = v6 ∧ v54 = .int .i64 (j : Int) ∧ Aside0 (j ≤ 31) ∧ Aside0 (wr.heap[s2]? = some (.cells (nums .u8 ((fl ++ flat4 (xs.take j)) ++ List.replicate (336 - 4 * j) 0)).toArray 5 (0, 0))) ∧ Aside0 (MT s2 w3 wr)) (fun _ _ v54 _ => 31 - (intOf v54).toNat)
  case atStart => exact ⟨0, _, _, rfl, rfl, rfl, ⟨Nat.zero_le _⟩, ⟨by rw [List.take_zero, flat4, List.append_nil]; exact HC0.out⟩, M_0⟩
  case round =>
    clear HC0 M_0
    obtain ⟨j, v5, v6, rfl, rfl, rfl, hj, HCj, HM⟩ := hrel
    by_cases c9 : j < 31
    · have c9b0 : decide ((j : Int) < 31) = true := decide_eq_true (by omega)
      have c9b1 : decide (j < 31) = true := decide_eq_true c9
      obtain ⟨p, hp⟩ : ∃ p, p = xs.getD j 0 := ⟨_, rfl⟩
      have HPV := Aside0.mk hp
      obtain ⟨ls, hls⟩ : ∃ ls, ls = (fl ++ flat4 (xs.take j)) ++ List.replicate (336 - 4 * j) 0 := ⟨_, rfl⟩
      have hc := HCj.out
      rw [← hls] at hc
      have HC := Aside0.mk hc
      have HLS := Aside0.mk hls
      have HLL := Aside0.mk (show ls.length = 512 by rw [hls, List.length_append, List.length_append, HHL.out, flat4_length, List.length_take, NXS.out, List.length_replicate, Nat.min_eq_left (by omega)]; omega)
      have HAT := Aside0.mk (show wrap64 (176 + wrap64 (4 * (j : Int))) = ((176 + 4 * j : Nat) : Int) by rw [show wrap64 (4 * (j : Int)) = ((4 * j : Nat) : Int) by unfold wrap64; omega]; unfold wrap64; omega)
      have C9 := Aside0.mk c9
      clear hp c9 hc hls HCj
      go_wp2_with (first | ((with_reducible refine gate_dst (N := 57) rfl ?_); refine hx_index rfl 43 3 31 (.tmp 53) (.tmp 54) rfl xs j _ rfl rfl Tryd.underlying43 Tryd.underlying3 rfl (by kernel_rfl) NXS.out C9.out ?_; rw [← HPV.out]) | ((with_reducible refine gate_dst (N := 63) rfl ?_); refine goesL_ (some 63) rfl rfl Tryd.func48 (by kernel_rfl) rfl #[.slice (some ⟨s2, 0, none⟩) 512 512, .int .i64 ((176 + 4 * j : Nat) : Int), .int .i64 4, .int .i64 p] rfl (by (try simp only [List.map_toArray, List.map_cons, List.map_nil]); first | done | rfl | (rw [← HAT.out]; rfl)) ?_; refine (impl_put_int.raw s2 0 512 512 (176 + 4 * j) 4 ls p _ HC.out (by rw [HLL.out]; decide) (by have := C9.out; omega) (by decide) (by rw [HLL.out]; decide)).mono ?_; rintro e_ w15 ⟨rfl, m_, g_⟩; refine ⟨_, rfl, ?_⟩; have HC5 := Aside0.mk g_; have M5 := Aside0.mk (HM.out.trans m_); clear m_ g_ HC HM))
      go_roundw
      case rel => exact ⟨j + 1, _, _, rfl, rfl, by first | rw [show wrap64 ((j : Int) + 1) = ((j + 1 : Nat) : Int) by (have := C9.out; unfold wrap64; omega)] | (simp; done), ⟨by have := C9.out; omega⟩, ⟨by
        have ho := HC5.out
        rw [HLS.out, HPV.out, fs_snap fl xs j HHL.out NXS.out C9.out] at ho
        exact ho⟩, M5⟩
      case measure =>
        (try rw [show wrap64 ((j : Int) + 1) = ((j + 1 : Nat) : Int) by (have := C9.out; unfold wrap64; omega)])
        simp only [intOf]
        have := C9.out
        omega
    · obtain rfl : j = 31 := by have := hj.out; omega
      have c9b0 : decide ((31 : Int) < 31) = false := by decide
      have hc := HCj.out
      rw [List.take_of_length_le (by rw [NXS.out]; exact Nat.le_refl _)] at hc
      have ho := own_blk (B := w.heap.size) hc (by omega) (by rw [List.length_append, List.length_append, HHL.out, flat4_length, NXS.out, List.length_replicate]; decide)
      rw [show ((fl ++ flat4 xs) ++ List.replicate (336 - 4 * 31) (0 : Int)).length = 512 by rw [List.length_append, List.length_append, HHL.out, flat4_length, NXS.out, List.length_replicate], HFL.out, XS.out, show fsHead a0 ++ flat4 (fsS a0) = fsBody a0 from rfl] at ho
      have OF := Aside0.mk ho
      have HBF := Aside0.mk (HM.out.below HB3.out HB3.out.size (by omega))
      clear c9 hc ho HCj HM HB3
      go_wp2_with (first | ((with_reducible refine gate_dst (N := 66) rfl ?_); refine goesL_ (some 66) rfl rfl Tryd.func50 (by kernel_rfl) rfl #[.slice (some ⟨s2, 0, none⟩) 512 512] rfl (by (try simp only [List.map_toArray, List.map_cons, List.map_nil]); first | done | rfl) ?_; refine (impl_sealed.calls 6000 (fun _ => True) _ _ _ w _ HBF.out OF.out HSE.out).mono ?_; rintro e_ w16 ⟨v66, rfl, R_, b_, k_⟩; refine ⟨_, rfl, ?_⟩; have O66 := Aside0.mk (Kd.R_mono (ok' := fun _ => True) R_ (fun _ _ => trivial)); have HB16 := Aside0.mk b_; clear R_ b_ k_))
      go_ret2
      exact ⟨_, rfl, O66.out, HB16.out⟩

/-! ### impl_number: function 84 -/
def impl_number.l0 : Nat → List Int → Int → Int → Int → Option (Int)
  | 0, _, _, _, _ => none
  | k + 1, x0, x1, x7, x8 => if x8 ≥ 0 then (if 0 ≤ (wrap64 (x1 + x8)) then (if (wrap64 (x1 + x8)) < (x0.length : Int) then (impl_number.l0 k x0 x1 (Go.bits .or .u64 (IntKind.u64.wrap (x7 * 256)) (IntKind.u64.wrap (rd x0 (wrap64 (x1 + x8))))) (wrap64 (x8 - 1))) else (none)) else (none)) else (some (wrap64 (x7)))
def impl_number.f (k : Nat) (l0 : List Int) (a1 : Int) (a2 : Int) : Option (Int) := impl_number.l0 k l0 a1 0 (wrap64 (a2 - 1))
theorem impl_number.mono_l : ∀ k, (∀ y0 y1 y2 y3, LeO (impl_number.l0 k y0 y1 y2 y3) (impl_number.l0 (k + 1) y0 y1 y2 y3))
  | 0 => fun _ _ _ _ r h => by simp [impl_number.l0] at h
  | k + 1 => by
    have ih0 := impl_number.mono_l k
    · intro y0 y1 y2 y3
      unfold impl_number.l0
      repeat' first
      | (with_reducible exact ih0 _ _ _ _)
      | (with_reducible exact LeO.refl _)
      | (with_reducible exact LeO.none _)
      | (with_reducible refine LeO.ite ?_ ?_)
      | (with_reducible refine LeO.bind ?_ (fun _ => ?_))
      | exact ih0 _ _ _ _
      | exact LeO.none _
      | refine LeO.ite ?_ ?_
      | refine LeO.bind ?_ (fun _ => ?_)
theorem impl_number.mono : ∀ a0 a1 a2 k, LeO (impl_number.f k a0 a1 a2) (impl_number.f (k + 1) a0 a1 a2) := by
  intro a0 a1 a2 k
  have ih0 := impl_number.mono_l k
  unfold impl_number.f
  repeat' first
      | (with_reducible exact ih0 _ _ _ _)
      | (with_reducible exact LeO.refl _)
      | (with_reducible exact LeO.none _)
      | (with_reducible refine LeO.ite ?_ ?_)
      | (with_reducible refine LeO.bind ?_ (fun _ => ?_))
      | exact ih0 _ _ _ _
      | exact LeO.none _
      | refine LeO.ite ?_ ?_
      | refine LeO.bind ?_ (fun _ => ?_)
set_option maxHeartbeats 8000000 in
set_option maxRecDepth 100000 in
theorem impl_number.calls (k : Nat) (A0 : Option Addr) (c0 : Nat) (l0 : List Int) (a1 : Int) (a2 : Int) (r : Int) (w : World) (hr0 : Kd.C (Kd.int .u8) w A0 l0.length l0) (hc0 : l0.length ≤ c0) (h : impl_number.f k l0 a1 a2 = some r) :
    Calls Tryd.prog 84 #[.slice A0 l0.length c0, .int .i64 a1, .int .i64 a2] w fun e w' => e = .returned (.int .i64 r) ∧ Drawn0 w w' := by
  have HR0 := Aside0.mk hr0
  have HC0 := Aside0.mk hc0
  clear hr0 hc0
  have H : (impl_number.l0 k l0 a1 0 (wrap64 (a2 - 1))) = some r := h
  clear h
  have H' := Aside0.mk H
  clear H
  go_enter Tryd.func84, Tryd.ntmps84
  go_wp2
  go_loopg [7, 8] k (fun kq v7 v8 w' => ∃ (x7_1 : Int) (x8_1 : Int), v7 = .int .u64 x7_1 ∧ v8 = .int .i64 x8_1 ∧ Aside0 (impl_number.l0 kq l0 a1 x7_1 x8_1 = some r) ∧ Aside0 (kq ≤ k) ∧ Drawn0 w w')
  case atStart => exact ⟨(0), (wrap64 (a2 - 1)), (by first | rfl | (simp; done) | (simp [*]; done)), (by first | rfl | (simp; done) | (simp [*]; done)), H', ⟨Nat.le_refl _⟩, by repeat (first | exact Drawn0.refl _ | apply Drawn0.step)⟩
  case round =>
    clear H'
    try clear p2
    obtain ⟨x7_1, x8_1, rfl, rfl, HA, HK1, ⟨m1, rfl⟩⟩ := hrel
    cases gk with
    | zero => exact absurd HA.out (by simp [impl_number.l0])
    | succ k1 =>
      have H := HA.out
      clear HA
      simp only [impl_number.l0] at H
      by_cases c4 : x8_1 ≥ 0
      · rw [if_pos c4] at H
        have c4b0 : decide (0 ≤ x8_1) = true := decide_eq_true c4
        clear c4
        obtain ⟨ji5, hji5⟩ : ∃ j_ : Int, (wrap64 (a1 + x8_1)) = j_ := ⟨_, rfl⟩
        replace H : (if 0 ≤ (ji5) then (if (ji5) < (l0.length : Int) then (impl_number.l0 k1 l0 a1 (Go.bits .or .u64 (IntKind.u64.wrap (x7_1 * 256)) (IntKind.u64.wrap (rd l0 (ji5)))) (wrap64 (x8_1 - 1))) else (none)) else (none)) = some r := by first | (rw [hji5] at H; exact H) | (simp only [hji5] at H ⊢; exact H)
        have hji5w : (IntKind.i64.wrap (a1 + x8_1)) = ji5 := (i64_w _).trans hji5
        by_cases c6 : 0 ≤ (ji5)
        · rw [if_pos c6] at H
          have c6b0 : decide (0 ≤ (ji5)) = true := decide_eq_true c6
          clear c6
          by_cases c7 : (ji5) < (l0.length : Int)
          · rw [if_pos c7] at H
            have c7b0 : decide ((ji5) < (l0.length : Int)) = true := decide_eq_true c7
            clear c7
            have H' := Aside0.mk H
            clear H
            have p153 : 0 ≤ ((ji5) : Int) := of_decide_eq_true (by first | (with_reducible assumption) | assumption)
            have q153 : (ji5) < (l0.length : Int) := of_decide_eq_true (by first | (with_reducible assumption) | assumption)
            obtain ⟨ad153, e153, hx153_0⟩ := Kd.at_int HR0.out (ji5) p153 q153
            cases e153
            replace p153 := eq_true p153
            replace q153 := eq_true q153
            go_wp2
            go_roundg k1
            case measure => have := HK1.out; omega
            case rel => exact ⟨(Go.bits .or .u64 (IntKind.u64.wrap (x7_1 * 256)) (IntKind.u64.wrap (rd l0 (ji5)))), (wrap64 (x8_1 - 1)), (by first | rfl | (simp; done) | (simp only [← hji5] <;> (first | rfl | simp)) | (simp [*]; done)), (by first | rfl | (simp; done) | (simp [*]; done)), H', ⟨by have := HK1.out; omega⟩, by repeat (first | exact Drawn0.refl _ | apply Drawn0.step)⟩
          · rw [if_neg c7] at H
            exact absurd H (by simp)
        · rw [if_neg c6] at H
          exact absurd H (by simp)
      · rw [if_neg c4] at H
        have c4b0 : decide (0 ≤ x8_1) = false := decide_eq_false c4
        clear c4
        obtain rfl := Option.some.inj H
        go_wp2
        go_ret
        exact ⟨by first | rfl | (simp; done) | (simp [*]; done), by repeat (first | exact Drawn0.refl _ | apply Drawn0.step)⟩

open Go.Proofs.YtkghgjehjchajaaDoorW Go.Proofs.YtkghgjehjchajaaDoorW.PrintHand Go.Proofs.YtkghgjehjchajaaDoorW.PrintHx
/-! ### impl_getRoot: function 85 -/
open Go.Proofs.YtkghgjehjchajaaDoorW.PrintLe Go.Proofs.YtkghgjehjchajaaDoorW.PrintGrow Go.Proofs.YtkghgjehjchajaaDoorW.PrintDec Go.Proofs.YtkghgjehjchajaaDoorW.PrintRaw
theorem number_l0 (x0 c : List Int) (at_ : Nat) (hb : Byt c) (h8 : c.length ≤ 8) (hat : at_ + c.length ≤ x0.length) (hc : ∀ j, j < c.length → x0.getD (at_ + j) 0 = c.getD j 0) (hx : x0.length ≤ 1048576) : ∀ (n k : Nat), n ≤ c.length → n < k → impl_number.l0 k x0 (at_ : Int) (le (c.drop n)) ((n : Int) - 1) = some (wrap64 (le c))
  | 0, k, h1, h2 => by
    obtain ⟨k, rfl⟩ := sucK h2
    simp only [impl_number.l0]
    rw [List.drop_zero, if_neg (by omega)]
  | n + 1, k, h1, h2 => by
    obtain ⟨k, rfl⟩ := sucK h2
    have hn : n < c.length := by omega
    have hd := List.drop_eq_getElem_cons hn
    have hxn := hb c[n] (List.getElem_mem hn)
    have h0 := le_nonneg (hb.drop (n + 1))
    have hlt := le_lt (hb.drop (n + 1))
    rw [List.length_drop] at hlt
    have h7 : le (c.drop (n + 1)) < 256 ^ 7 := Int.lt_of_lt_of_le hlt (p256_le (by omega))
    have e1 : wrap64 ((at_ : Int) + (((n + 1 : Nat) : Int) - 1)) = ((at_ + n : Nat) : Int) := by unfold wrap64; omega
    have hr : rd x0 ((at_ + n : Nat) : Int) = c[n] := by rw [rdN, hc n hn, List.getD_eq_getElem?_getD, List.getElem?_eq_getElem hn]; rfl
    simp only [impl_number.l0]
    rw [e1, if_pos (by omega), if_pos (by omega), if_pos (by omega), hr]
    have hv : Go.bits .or .u64 (IntKind.u64.wrap (le (c.drop (n + 1)) * 256)) (IntKind.u64.wrap c[n]) = le (c.drop n) := by
      rw [wraps_u64 _ (by omega) (by omega), wraps_u64 _ (by omega) (by omega), bits_join .u64 64 (by decide) wraps_u64 8 _ _ (by omega) (by omega) (by omega) (by omega) (by omega) (by omega), hd]
      simp only [le]
      omega
    rw [hv, show wrap64 (((n + 1 : Nat) : Int) - 1 - 1) = (n : Int) - 1 by unfold wrap64; omega]
    exact number_l0 x0 c at_ hb h8 hat hc hx n k (by omega) (by omega)
/-- number: what bytes at a place say -/
theorem number_f (x0 : List Int) (at_ size : Nat) (hb : Byt x0) (h8 : size ≤ 8) (hat : at_ + size ≤ x0.length) (hx : x0.length ≤ 1048576) (k : Nat) (hk : 8 < k) : impl_number.f k x0 (at_ : Int) (size : Int) = some (wrap64 (le ((x0.drop at_).take size))) := by
  unfold impl_number.f
  have hl : ((x0.drop at_).take size).length = size := by rw [List.length_take, List.length_drop]; omega
  have h := number_l0 x0 ((x0.drop at_).take size) at_ ((hb.drop _).take _) (by omega) (by omega) (fun j hj => by
    rw [List.getD_eq_getElem?_getD, List.getD_eq_getElem?_getD, List.getElem?_take, List.getElem?_drop, if_pos (by omega)]) hx size k (by omega) (by omega)
  rw [List.drop_eq_nil_of_le (by omega)] at h
  rw [show wrap64 ((size : Int) - 1) = (size : Int) - 1 by unfold wrap64; omega]
  exact h
def impl_getRoot.f (l0 : List Int) : Option (List Int) := if (64 ≤ l0.length ∧ l0.length ≤ 1048576) ∧ (∀ x ∈ l0, 0 ≤ x ∧ x ≤ 255) then some (rootB l0) else none
set_option maxHeartbeats 8000000 in
set_option maxRecDepth 100000 in
theorem impl_getRoot.calls (A0 : Option Addr) (c0 : Nat) (l0 : List Int) (r : List Int) (w : World) (hr0 : Kd.C (Kd.int .u8) w A0 l0.length l0) (hc0 : l0.length ≤ c0) (h : impl_getRoot.f l0 = some r) :
    Calls Tryd.prog 85 #[.slice A0 l0.length c0] w fun e w' => e = .returned (.agg (nums .i64 r).toArray) ∧ Below w.heap.size w w' := by
  unfold impl_getRoot.f at h
  by_cases hdom : (64 ≤ l0.length ∧ l0.length ≤ 1048576) ∧ (∀ x ∈ l0, 0 ≤ x ∧ x ≤ 255)
  case neg => rw [if_neg hdom] at h; cases h
  rw [if_pos hdom] at h
  obtain rfl := Option.some.inj h
  have HL := Aside0.mk hdom.1
  have HBY : Aside0 (Byt l0) := ⟨hdom.2⟩
  have HR0 := Aside0.mk hr0
  have HC0 := Aside0.mk hc0
  clear h hdom hr0 hc0
  have Z31 : ∀ w, (zeroValue 31).run Tryd.prog w = .ok (.agg (nums .i64 (List.replicate 15 0)).toArray) w := fun _ => by kernel_rfl
  obtain ⟨g0, hg0⟩ : ∃ g, g = wrap64 (le (seg l0 0 8)) := ⟨_, rfl⟩
  have Eg0 := Aside0.mk (show impl_number.f 20 l0 0 8 = some g0 by rw [hg0]; exact number_f l0 0 8 HBY.out (by decide) (by have := HL.out; omega) (by have := HL.out; omega) 20 (by decide))
  obtain ⟨g1, hg1⟩ : ∃ g, g = wrap64 (le (seg l0 56 4)) := ⟨_, rfl⟩
  have Eg1 := Aside0.mk (show impl_number.f 20 l0 56 4 = some g1 by rw [hg1]; exact number_f l0 56 4 HBY.out (by decide) (by have := HL.out; omega) (by have := HL.out; omega) 20 (by decide))
  obtain ⟨g2, hg2⟩ : ∃ g, g = wrap64 (le (seg l0 60 4)) := ⟨_, rfl⟩
  have Eg2 := Aside0.mk (show impl_number.f 20 l0 60 4 = some g2 by rw [hg2]; exact number_f l0 60 4 HBY.out (by decide) (by have := HL.out; omega) (by have := HL.out; omega) 20 (by decide))
  obtain ⟨ds, hds⟩ : ∃ d, d = rootVals l0 := ⟨_, rfl⟩
  have DL := Aside0.mk (show ds.length = 12 by rw [hds]; exact rootVals_length l0)
  have EGJ := Aside0.mk (show ∀ j : Nat, j < 12 → impl_number.f 20 l0 ((8 + 4 * j : Nat) : Int) 4 = some (ds.getD j 0) from fun j hj => by rw [hds, rootVals_get l0 j hj, ← wrap4 (seg_byt HBY.out _ _) (by rw [seg_le _ _ (by have := HL.out; omega)]; decide)]; exact number_f l0 (8 + 4 * j) 4 HBY.out (by decide) (by have := HL.out; omega) (by have := HL.out; omega) 20 (by decide))
  have hres : rootB l0 = g0 :: (ds ++ [g1, g2]) := by rw [hg0, hg1, hg2, hds, wrap4 (seg_byt HBY.out 56 4) (by rw [seg_le _ _ (by have := HL.out; omega)]; decide), wrap4 (seg_byt HBY.out 60 4) (by rw [seg_le _ _ (by have := HL.out; omega)]; decide)]; rfl
  rw [hres]
  clear hres hg0 hg1 hg2 hds
  have HB0 : Aside0 (Below w.heap.size w w) := ⟨Below.refl _ _⟩
  obtain ⟨s0, Sz0⟩ : ∃ s0, Aside0 (w.heap.size = s0) := ⟨_, ⟨rfl⟩⟩
  have hw0 : w.heap.size ≤ s0 := Nat.le_of_eq Sz0.out
  have hw1 : s0 ≤ w.heap.size := Nat.le_of_eq Sz0.out.symm
  go_enter Tryd.func85, Tryd.ntmps85
  go_wp2_with (first | ((with_reducible refine gate_dst (N := 2) rfl ?_); refine hx_alloc rfl 2 rfl 31 rfl Sz0 (.agg (nums .i64 (List.replicate 15 0)).toArray) (nums .i64 (List.replicate 15 0)).toArray Z31 rfl ?_; intro w1 s1 Ls1 Ss1 b_ g_; have H2_1 := Aside0.mk g_; have HB1 := Aside0.mk (below_then HB0.out HB0.out.size b_); clear b_ g_ HB0) | ((with_reducible refine gate_dst (N := 6) rfl ?_); refine goesL_ (some 6) rfl rfl Tryd.func84 (by kernel_rfl) rfl #[.slice A0 l0.length c0, .int .i64 0, .int .i64 8] rfl (by (try simp only [List.map_toArray, List.map_cons, List.map_nil]); first | done | rfl) ?_; refine (impl_number.calls 20 A0 c0 l0 0 8 g0 _ (Kd.C_below HR0.out HB1.out) HC0.out Eg0.out).mono ?_; rintro e_ w2 ⟨rfl, d_⟩; refine ⟨_, rfl, ?_⟩; have b_ := kept_drawn d_; have H2_2 := Aside0.mk (blk_below H2_1.out b_); have HB2 := Aside0.mk (below_then HB1.out HB1.out.size b_); clear b_ d_ H2_1 HB1) | ((with_reducible refine gate_dst (N := 8) rfl ?_); refine goesL_ (some 8) rfl rfl Tryd.func84 (by kernel_rfl) rfl #[.slice A0 l0.length c0, .int .i64 56, .int .i64 4] rfl (by (try simp only [List.map_toArray, List.map_cons, List.map_nil]); first | done | rfl) ?_; refine (impl_number.calls 20 A0 c0 l0 56 4 g1 _ (Kd.C_below HR0.out HB2.out) HC0.out Eg1.out).mono ?_; rintro e_ w3 ⟨rfl, d_⟩; refine ⟨_, rfl, ?_⟩; have b_ := kept_drawn d_; have H2_3 := Aside0.mk (blk_below H2_2.out b_); have HB3 := Aside0.mk (below_then HB2.out HB2.out.size b_); clear b_ d_ H2_2 HB2) | ((with_reducible refine gate_dst (N := 10) rfl ?_); refine goesL_ (some 10) rfl rfl Tryd.func84 (by kernel_rfl) rfl #[.slice A0 l0.length c0, .int .i64 60, .int .i64 4] rfl (by (try simp only [List.map_toArray, List.map_cons, List.map_nil]); first | done | rfl) ?_; refine (impl_number.calls 20 A0 c0 l0 60 4 g2 _ (Kd.C_below HR0.out HB3.out) HC0.out Eg2.out).mono ?_; rintro e_ w4 ⟨rfl, d_⟩; refine ⟨_, rfl, ?_⟩; have b_ := kept_drawn d_; have H2_4 := Aside0.mk (blk_below H2_3.out b_); have HB4 := Aside0.mk (below_then HB3.out HB3.out.size b_); have hz_ := (blk_lt H2_4.out); obtain ⟨s4, Ss4⟩ : ∃ s, Aside0 (w4.heap.size = s) := ⟨_, ⟨rfl⟩⟩; rw [Ss4.out] at hz_; clear b_ d_ H2_3 HB3) | ((with_reducible refine gate_dst (N := 3) rfl ?_); refine hx_alloc rfl 3 rfl 31 rfl Ss4 (.agg (nums .i64 (List.replicate 15 0)).toArray) (nums .i64 (List.replicate 15 0)).toArray Z31 rfl ?_; intro w5 s5 Ls5 Ss5 b_ g_; have HG5 := Aside0.mk g_; have HB5 := Aside0.mk (below_then HB4.out HB4.out.size b_); have H2_5 := Aside0.mk (blk_below H2_4.out b_); clear b_ g_ HB4 H2_4) | ((with_reducible refine gate_store (t := 31) (p := 3) (v := .tmp 11) rfl ?_); refine hx_store rfl rfl 31 (.tmp 3) (.tmp 11) rfl s4 15 rfl (nums .i64 (g0 :: (filled ds 0 ++ [g1, g2]))).toArray rfl (by kernel_rfl) (nums_size _ _ _ (filled_length DL.out 0 (by decide) _ _ _)) (nums_one _ _) HG5.out (by simp [nums]) ?_; intro w6 t_ gg_; have HG6 := Aside0.mk gg_; have H2_6 := Aside0.mk (t_.keep (show s0 ≠ s4 by omega) H2_5.out); have HB6 := Aside0.mk (t_.below HB5.out (by omega)); clear t_ gg_ HG5 HB5 H2_5))
  (try simp only [Act.put, List.setIfInBounds_toArray, List.set_cons_succ, List.set_cons_zero])
  go_loopw [4, 12] (fun v4 v15 wr => ∃ (j : Nat) (u : Value), u = v4 ∧ v15 = .int .i64 (j : Int) ∧ Aside0 (j ≤ 12) ∧ Aside0 (wr.heap[s4]? = some (.cells (nums .i64 (g0 :: (filled ds j ++ [g1, g2]))).toArray 31 (0, 0))) ∧ Aside0 (wr.heap[s0]? = some (.cells (nums .i64 (List.replicate 15 0)).toArray 31 (0, 0))) ∧ Aside0 (Below w.heap.size w wr)) (fun _ v15 _ => 12 - (intOf v15).toNat)
  case atStart => exact ⟨0, _, rfl, rfl, ⟨by omega⟩, HG6, H2_6, HB6⟩
  case round =>
    clear HG6 H2_6 HB6
    obtain ⟨j, v4, rfl, rfl, hj, HG, H2, HB⟩ := hrel
    by_cases c9 : j < 12
    · have c9b0 : decide ((j : Int) < 12) = true := decide_eq_true (by omega)
      have c9b1 : decide (j < 12) = true := decide_eq_true c9
      have e8 : wrap64 (8 + wrap64 (4 * (j : Int))) = ((8 + 4 * j : Nat) : Int) := at8 8 j (by decide) (by omega)
      obtain ⟨dv, hdv⟩ : ∃ d, d = ds.getD j 0 := ⟨_, rfl⟩
      have EGz := Aside0.mk (show impl_number.f 20 l0 (wrap64 (8 + wrap64 (4 * (j : Int)))) 4 = some dv by rw [e8, hdv]; exact EGJ.out j c9)
      have HDV := Aside0.mk hdv
      have C9 := Aside0.mk c9
      have q9 : (0 ≤ (j : Int)) = True := eq_true (by omega)
      have q10 : ((j : Int) < 12) = True := eq_true (by omega)
      have q11 : (j < 12) = True := eq_true c9
      clear hdv c9 e8
      go_wp2_with (first | ((with_reducible refine gate_dst (N := 20) rfl ?_); refine goesL_ (some 20) rfl rfl Tryd.func84 (by kernel_rfl) rfl #[.slice A0 l0.length c0, .int .i64 (wrap64 (8 + wrap64 (4 * (j : Int)))), .int .i64 4] rfl (by (try simp only [List.map_toArray, List.map_cons, List.map_nil]); first | done | rfl) ?_; refine (impl_number.calls 20 A0 c0 l0 _ _ dv _ (Kd.C_below HR0.out HB.out) HC0.out EGz.out).mono ?_; rintro e_ w7 ⟨rfl, d_⟩; refine ⟨_, rfl, ?_⟩; have b_ := kept_drawn d_; have HG5 := Aside0.mk (blk_below HG.out b_); have H25 := Aside0.mk (blk_below H2.out b_); have HB5 := Aside0.mk (below_then HB.out HB.out.size b_); clear b_ d_ HG H2 HB) | ((with_reducible refine gate_store (t := 3) (p := 22) (v := .tmp 20) rfl ?_); refine st_num rfl rfl 3 (.tmp 22) (.tmp 20) rfl s4 (1 + j) .i64 dv rfl rfl (by kernel_rfl) HG5.out (by rw [filled_length DL.out j (by have := C9.out; omega)]; have := C9.out; omega) ?_; intro w8 t_ gg_; have HG6 := Aside0.mk gg_; have H26 := Aside0.mk (t_.keep (show s0 ≠ s4 by omega) H25.out); have HB6 := Aside0.mk (t_.below HB5.out (by omega)); clear t_ gg_ HG5 H25 HB5))
      go_roundw
      case rel =>
        refine ⟨j + 1, _, rfl, by rw [show wrap64 ((j : Int) + 1) = ((j + 1 : Nat) : Int) by (have := C9.out; unfold wrap64; omega)], ⟨by have := C9.out; omega⟩, ⟨?_⟩, H26, HB6⟩
        have h_ := HG6.out
        rw [HDV.out, filled_next DL.out j C9.out] at h_
        exact h_
      case measure =>
        rw [show wrap64 ((j : Int) + 1) = ((j + 1 : Nat) : Int) by (have := C9.out; unfold wrap64; omega)]
        simp only [intOf, Int.toNat_natCast]
        have := C9.out
        omega
    · obtain rfl : j = 12 := by have := hj.out; omega
      have c9b0 : decide ((12 : Int) < 12) = false := by decide
      have hf := HG.out
      rw [filled_all DL.out] at hf
      have HF := Aside0.mk hf
      clear c9 hf HG
      go_wp2_with (first | ((with_reducible refine gate_dst (N := 24) rfl ?_); refine hx_load rfl 31 (.tmp 3) rfl s4 15 rfl Tryd.underlying31 rfl (by kernel_rfl) HF.out (by simp [nums, DL.out]) ?_) | ((with_reducible refine gate_store (t := 31) (p := 2) (v := .tmp 24) rfl ?_); refine hx_store rfl rfl 31 (.tmp 2) (.tmp 24) rfl s0 15 rfl (nums .i64 (g0 :: (ds ++ [g1, g2]))).toArray rfl (by kernel_rfl) (by simp [nums, DL.out]) (nums_one _ _) H2.out (by simp [nums]) ?_; intro w7 t_ gg_; have HR7 := Aside0.mk gg_; have HB7 := Aside0.mk (t_.below HB.out (by omega)); clear t_ gg_))
      exact bodyPost_ret (results_cell_row rfl _ _ s0 31 _ (0, 0) _ rfl HR7.out Tryd.underlying31 rfl (by rw [nums_size _ _ 15 (by simp [DL.out])]; kernel_rfl)) rfl ⟨rfl, HB7.out⟩

open Go.Proofs.YtkghgjehjchajaaDoorW Go.Proofs.YtkghgjehjchajaaDoorW.PrintHand Go.Proofs.YtkghgjehjchajaaDoorW.PrintHx
/-! ### impl_getFsinfo: function 60 -/
open Go.Proofs.YtkghgjehjchajaaDoorW.PrintLe Go.Proofs.YtkghgjehjchajaaDoorW.PrintGrow Go.Proofs.YtkghgjehjchajaaDoorW.PrintDec Go.Proofs.YtkghgjehjchajaaDoorW.PrintIno Go.Proofs.YtkghgjehjchajaaDoorW.PrintTab2 Go.Proofs.YtkghgjehjchajaaDoorW.PrintTab3 Go.Proofs.YtkghgjehjchajaaDoorW.PrintFsi Go.Proofs.YtkghgjehjchajaaDoorW.PrintFsb Go.Proofs.YtkghgjehjchajaaDoorW.PrintFsd Go.Proofs.YtkghgjehjchajaaDoorW.PrintCrc
def impl_getFsinfo.f (l0 : List Int) : Option (List Int) := if l0.length = 512 ∧ (∀ x ∈ l0, 0 ≤ x ∧ x ≤ 255) then some (fsB l0) else none
set_option maxHeartbeats 8000000 in
set_option maxRecDepth 100000 in
theorem impl_getFsinfo.calls (A0 : Option Addr) (c0 : Nat) (l0 : List Int) (r : List Int) (w : World) (hr0 : Kd.C (Kd.int .u8) w A0 l0.length l0) (hc0 : l0.length ≤ c0) (h : impl_getFsinfo.f l0 = some r) :
    Calls Tryd.prog 60 #[.slice A0 l0.length c0] w fun e w' => e = .returned (.agg (nums .i64 r).toArray) ∧ Below w.heap.size w w' := by
  unfold impl_getFsinfo.f at h
  by_cases hdom : l0.length = 512 ∧ (∀ x ∈ l0, 0 ≤ x ∧ x ≤ 255)
  case neg => rw [if_neg hdom] at h; cases h
  rw [if_pos hdom] at h
  obtain rfl := Option.some.inj h
  have HL := Aside0.mk hdom.1
  have HBY : Aside0 (Byt l0) := ⟨hdom.2⟩
  have HR0 := Aside0.mk hr0
  have HC0 := Aside0.mk hc0
  clear h hdom hr0 hc0
  have Z48 : ∀ w, (zeroValue 48).run Tryd.prog w = .ok (.agg (nums .i64 (List.replicate 68 0)).toArray) w := fun _ => by kernel_rfl
  obtain ⟨g0, hg0⟩ : ∃ g, g = wrap64 (le (seg l0 8 8)) := ⟨_, rfl⟩
  have EG0 := Aside0.mk (show impl_number.f 20 l0 8 8 = some g0 by rw [hg0]; exact number_f l0 8 8 HBY.out (by decide) (by rw [HL.out]; decide) (by rw [HL.out]; decide) 20 (by decide))
  obtain ⟨g1, hg1⟩ : ∃ g, g = wrap64 (le (seg l0 16 4)) := ⟨_, rfl⟩
  have EG1 := Aside0.mk (show impl_number.f 20 l0 16 4 = some g1 by rw [hg1]; exact number_f l0 16 4 HBY.out (by decide) (by rw [HL.out]; decide) (by rw [HL.out]; decide) 20 (by decide))
  obtain ⟨g2, hg2⟩ : ∃ g, g = wrap64 (le (seg l0 20 4)) := ⟨_, rfl⟩
  have EG2 := Aside0.mk (show impl_number.f 20 l0 20 4 = some g2 by rw [hg2]; exact number_f l0 20 4 HBY.out (by decide) (by rw [HL.out]; decide) (by rw [HL.out]; decide) 20 (by decide))
  obtain ⟨g3, hg3⟩ : ∃ g, g = wrap64 (le (seg l0 24 8)) := ⟨_, rfl⟩
  have EG3 := Aside0.mk (show impl_number.f 20 l0 24 8 = some g3 by rw [hg3]; exact number_f l0 24 8 HBY.out (by decide) (by rw [HL.out]; decide) (by rw [HL.out]; decide) 20 (by decide))
  obtain ⟨g4, hg4⟩ : ∃ g, g = wrap64 (le (seg l0 32 8)) := ⟨_, rfl⟩
  have EG4 := Aside0.mk (show impl_number.f 20 l0 32 8 = some g4 by rw [hg4]; exact number_f l0 32 8 HBY.out (by decide) (by rw [HL.out]; decide) (by rw [HL.out]; decide) 20 (by decide))
  obtain ⟨g5, hg5⟩ : ∃ g, g = wrap64 (le (seg l0 40 4)) := ⟨_, rfl⟩
  have EG5 := Aside0.mk (show impl_number.f 20 l0 40 4 = some g5 by rw [hg5]; exact number_f l0 40 4 HBY.out (by decide) (by rw [HL.out]; decide) (by rw [HL.out]; decide) 20 (by decide))
  obtain ⟨g6, hg6⟩ : ∃ g, g = wrap64 (le (seg l0 44 4)) := ⟨_, rfl⟩
  have EG6 := Aside0.mk (show impl_number.f 20 l0 44 4 = some g6 by rw [hg6]; exact number_f l0 44 4 HBY.out (by decide) (by rw [HL.out]; decide) (by rw [HL.out]; decide) 20 (by decide))
  have info5_ : (Tryd.prog.info? 5).map (fun i => (i.zero, i.size, i.bytes)) = some (some (.int .u8 0), 1, 1) := by kernel_rfl
  obtain ⟨i0_, hi0_, _, hsz_, _⟩ := info_parts info5_
  obtain ⟨A20, hcut20, hA20, hC20⟩ := print_drop_of (P := Tryd.prog) (Value.int .u8) 0 28 5 .i64 Tryd.underlying28 hi0_ hsz_ A0 c0 l0 (48 : Int) (by decide) (by rw [HL.out]; decide) HC0.out
  obtain ⟨q20, hq20⟩ : ∃ q, q = l0.drop (48 : Int).toNat := ⟨_, rfl⟩
  rw [← hq20] at hcut20 hA20 hC20
  obtain ⟨k20, hk20⟩ : ∃ k, k = c0 - (48 : Int).toNat := ⟨_, rfl⟩
  rw [← hk20] at hcut20 hC20
  clear hk20
  have hs20 : q20 = l0.drop 48 := hq20
  have HR20 := Aside0.mk (Kd.C_of_reads (h1 := fun _ => rfl) (hA20 _ (Kd.reads_of_C HR0.out)))
  have HC20 := Aside0.mk hC20
  obtain ⟨ri, hri⟩ : ∃ g, g = rootB (seg l0 48 64) := ⟨_, rfl⟩
  have NRI := Aside0.mk (show ri.length = 15 by rw [hri]; exact rootOf_length _ _)
  have EG20 := Aside0.mk (show impl_getRoot.f q20 = some ri by rw [hri, hs20, show rootB (seg l0 48 64) = rootB (l0.drop 48) from rootOf_part _ l0 48]; exact if_pos ⟨⟨by rw [List.length_drop, HL.out]; decide, by rw [List.length_drop, HL.out]; decide⟩, HBY.out.drop 48⟩)
  clear hs20 hq20 hA20 hC20
  obtain ⟨A23, hcut23, hA23, hC23⟩ := print_drop_of (P := Tryd.prog) (Value.int .u8) 0 28 5 .i64 Tryd.underlying28 hi0_ hsz_ A0 c0 l0 (112 : Int) (by decide) (by rw [HL.out]; decide) HC0.out
  obtain ⟨q23, hq23⟩ : ∃ q, q = l0.drop (112 : Int).toNat := ⟨_, rfl⟩
  rw [← hq23] at hcut23 hA23 hC23
  obtain ⟨k23, hk23⟩ : ∃ k, k = c0 - (112 : Int).toNat := ⟨_, rfl⟩
  rw [← hk23] at hcut23 hC23
  clear hk23
  have hs23 : q23 = l0.drop 112 := hq23
  have HR23 := Aside0.mk (Kd.C_of_reads (h1 := fun _ => rfl) (hA23 _ (Kd.reads_of_C HR0.out)))
  have HC23 := Aside0.mk hC23
  obtain ⟨rm, hrm⟩ : ∃ g, g = rootB (seg l0 112 64) := ⟨_, rfl⟩
  have NRM := Aside0.mk (show rm.length = 15 by rw [hrm]; exact rootOf_length _ _)
  have EG23 := Aside0.mk (show impl_getRoot.f q23 = some rm by rw [hrm, hs23, show rootB (seg l0 112 64) = rootB (l0.drop 112) from rootOf_part _ l0 112]; exact if_pos ⟨⟨by rw [List.length_drop, HL.out]; decide, by rw [List.length_drop, HL.out]; decide⟩, HBY.out.drop 112⟩)
  clear hs23 hq23 hA23 hC23
  obtain ⟨ss, hss⟩ : ∃ s, s = snapsOf l0 := ⟨_, rfl⟩
  have HSS := Aside0.mk hss
  have HSL := Aside0.mk (show ss.length = 31 by rw [hss]; exact snapsOf_length l0)
  have BU : ∀ z y : List Int, z.length = 15 → y.length = 15 → ∀ w, (Instr.build 48 #[(0, .int .i64 g0), (1, .int .i64 g1), (2, .int .i64 g2), (3, .int .i64 g3), (4, .int .i64 g4), (5, .int .i64 g5), (6, .int .i64 g6), (7, .agg (nums .i64 z).toArray), (8, .agg (nums .i64 y).toArray)]).run Tryd.prog w = .ok (.agg (nums .i64 (g0 :: g1 :: g2 :: g3 :: g4 :: g5 :: g6 :: (z ++ y) ++ List.replicate 31 0)).toArray) w := by
    intro z y h k w_
    obtain ⟨x0, xb0, rfl, h0⟩ := cons_of_len h
    obtain ⟨x1, xb1, rfl, h1⟩ := cons_of_len h0
    obtain ⟨x2, xb2, rfl, h2⟩ := cons_of_len h1
    obtain ⟨x3, xb3, rfl, h3⟩ := cons_of_len h2
    obtain ⟨x4, xb4, rfl, h4⟩ := cons_of_len h3
    obtain ⟨x5, xb5, rfl, h5⟩ := cons_of_len h4
    obtain ⟨x6, xb6, rfl, h6⟩ := cons_of_len h5
    obtain ⟨x7, xb7, rfl, h7⟩ := cons_of_len h6
    obtain ⟨x8, xb8, rfl, h8⟩ := cons_of_len h7
    obtain ⟨x9, xb9, rfl, h9⟩ := cons_of_len h8
    obtain ⟨x10, xb10, rfl, h10⟩ := cons_of_len h9
    obtain ⟨x11, xb11, rfl, h11⟩ := cons_of_len h10
    obtain ⟨x12, xb12, rfl, h12⟩ := cons_of_len h11
    obtain ⟨x13, xb13, rfl, h13⟩ := cons_of_len h12
    obtain ⟨x14, xb14, rfl, h14⟩ := cons_of_len h13
    obtain ⟨y0, yb0, rfl, k0⟩ := cons_of_len k
    obtain ⟨y1, yb1, rfl, k1⟩ := cons_of_len k0
    obtain ⟨y2, yb2, rfl, k2⟩ := cons_of_len k1
    obtain ⟨y3, yb3, rfl, k3⟩ := cons_of_len k2
    obtain ⟨y4, yb4, rfl, k4⟩ := cons_of_len k3
    obtain ⟨y5, yb5, rfl, k5⟩ := cons_of_len k4
    obtain ⟨y6, yb6, rfl, k6⟩ := cons_of_len k5
    obtain ⟨y7, yb7, rfl, k7⟩ := cons_of_len k6
    obtain ⟨y8, yb8, rfl, k8⟩ := cons_of_len k7
    obtain ⟨y9, yb9, rfl, k9⟩ := cons_of_len k8
    obtain ⟨y10, yb10, rfl, k10⟩ := cons_of_len k9
    obtain ⟨y11, yb11, rfl, k11⟩ := cons_of_len k10
    obtain ⟨y12, yb12, rfl, k12⟩ := cons_of_len k11
    obtain ⟨y13, yb13, rfl, k13⟩ := cons_of_len k12
    obtain ⟨y14, yb14, rfl, k14⟩ := cons_of_len k13
    obtain rfl := List.length_eq_zero_iff.mp h14
    obtain rfl := List.length_eq_zero_iff.mp k14
    exact run_build w_ 48 _ _ (by kernel_rfl)
  replace BU := BU ri rm NRI.out NRM.out
  obtain ⟨tp, htp⟩ : ∃ t, t = g0 :: g1 :: g2 :: g3 :: g4 :: g5 :: g6 :: (ri ++ rm) := ⟨_, rfl⟩
  have hres : fsB l0 = tp ++ ss := by rw [htp, hss, hg0, hg1, hg2, hg3, hg4, hg5, hg6, hri, hrm, wrap4 (seg_byt HBY.out 16 4) (by rw [seg_le _ _ (by rw [HL.out]; decide)]; decide), wrap4 (seg_byt HBY.out 20 4) (by rw [seg_le _ _ (by rw [HL.out]; decide)]; decide), wrap4 (seg_byt HBY.out 40 4) (by rw [seg_le _ _ (by rw [HL.out]; decide)]; decide), wrap4 (seg_byt HBY.out 44 4) (by rw [seg_le _ _ (by rw [HL.out]; decide)]; decide)]; rfl
  have HTL := Aside0.mk (show tp.length = 37 by rw [htp]; simp [NRI.out, NRM.out])
  obtain ⟨ra, hra⟩ : ∃ a, a = tp ++ List.replicate 31 0 := ⟨_, rfl⟩
  have hra2 : ra = g0 :: g1 :: g2 :: g3 :: g4 :: g5 :: g6 :: (ri ++ rm) ++ List.replicate 31 0 := by rw [hra, htp]
  rw [← hra2] at BU
  have BU_ := Aside0.mk BU
  have NA := Aside0.mk (show ra.length = 68 by rw [hra, List.length_append, HTL.out]; rfl)
  have HRA := Aside0.mk (show fsUp tp ss 0 = ra by rw [hra]; exact fsUp_zero)
  obtain ⟨rz, hrz⟩ : ∃ a, a = tp ++ ss := ⟨_, rfl⟩
  rw [hres, ← hrz]
  have NL := Aside0.mk (show rz.length = 68 by rw [hrz, List.length_append, HTL.out, HSL.out])
  have HRZ := Aside0.mk hrz
  clear BU hra hra2 hrz hres htp hss hri hrm hg0 hg1 hg2 hg3 hg4 hg5 hg6
  have HB0 : Aside0 (Below w.heap.size w w) := ⟨Below.refl _ _⟩
  obtain ⟨s0, Sz0⟩ : ∃ s0, Aside0 (w.heap.size = s0) := ⟨_, ⟨rfl⟩⟩
  have hw0 : w.heap.size ≤ s0 := Nat.le_of_eq Sz0.out
  have hw1 : s0 ≤ w.heap.size := Nat.le_of_eq Sz0.out.symm
  go_enter Tryd.func60, Tryd.ntmps60
  go_wp2_with (first | ((with_reducible refine gate_dst (N := 2) rfl ?_); refine hx_alloc rfl 2 rfl 48 rfl Sz0 (.agg (nums .i64 (List.replicate 68 0)).toArray) (nums .i64 (List.replicate 68 0)).toArray Z48 rfl ?_; intro w1 s1 Ls1 Ss1 b_ g_; have H2 := Aside0.mk g_; have HB1 := Aside0.mk (below_then HB0.out HB0.out.size b_); clear b_ g_ HB0))
  refine wp_region_grow_last 22 [Is (.slice A0 l0.length c0), Is (.int .i64 g0), Is (.slice A0 l0.length c0), Is (.int .i64 g1), Is (.slice A0 l0.length c0), Is (.int .i64 g2), Is (.slice A0 l0.length c0), Is (.int .i64 g3), Is (.slice A0 l0.length c0), Is (.int .i64 g4), Is (.slice A0 l0.length c0), Is (.int .i64 g5), Is (.slice A0 l0.length c0), Is (.int .i64 g6), Is (.slice A0 l0.length c0), Is (.slice A20 q20.length k20), Is (.agg (nums .i64 ri).toArray), Is (.slice A0 l0.length c0), Is (.slice A23 q23.length k23), Is (.agg (nums .i64 rm).toArray), Is (.agg (nums .i64 ra).toArray), New 48 (nums .i64 (List.replicate 68 0)).toArray w1.heap.size] (by kernel_rfl) (by kernel_rfl) (by kernel_rfl) (by kernel_rfl) (allst_cons st_is (allst_cons st_is (allst_cons st_is (allst_cons st_is (allst_cons st_is (allst_cons st_is (allst_cons st_is (allst_cons st_is (allst_cons st_is (allst_cons st_is (allst_cons st_is (allst_cons st_is (allst_cons st_is (allst_cons st_is (allst_cons st_is (allst_cons st_is (allst_cons st_is (allst_cons st_is (allst_cons st_is (allst_cons st_is (allst_cons st_is (allst_cons st_new allst_nil)))))))))))))))))))))) ?_ (fun w2 hgn => ?_)
  · refine steps_cons ?_ ?_
    · refine stepO_val rfl [] [0] (by kernel_rfl) (.slice A0 l0.length c0) (fun a w_ hg hf => ?_) (fun w_ _ => rfl)
      obtain ⟨_, ⟨o0, _⟩⟩ := hf
      have e0 : a.tmps[0]? = some (.slice A0 l0.length c0) := o0.trans rfl
      unfold execOp
      simp only [PrintLast.eval_of e0]
      rfl
    refine steps_cons ?_ ?_
    · refine stepO_call rfl [(0, 5)] [] (by kernel_rfl) Tryd.func84 (by kernel_rfl) rfl rfl (fun a w_ hg hf => ?_)
      obtain ⟨⟨⟨_, e5, rfl⟩, _⟩, _⟩ := hf
      replace e5 : a.tmps[5]? = some (.slice A0 l0.length c0) := e5
      refine ⟨#[.slice A0 l0.length c0, .int .i64 8, .int .i64 8], (by simp only [List.map_toArray, List.map_cons, List.map_nil, PrintLast.eval_of e5]; first | done | rfl), (impl_number.calls 20 A0 c0 l0 8 8 g0 w_ (Kd.C_below HR0.out (below_then HB1.out HB1.out.size hg)) HC0.out EG0.out).mono ?_⟩
      rintro e_ w2_ ⟨rfl, d_⟩
      have b_ := kept_drawn d_
      exact ⟨_, rfl, b_, rfl⟩
    refine steps_cons ?_ ?_
    · refine stepO_val rfl [] [0] (by kernel_rfl) (.slice A0 l0.length c0) (fun a w_ hg hf => ?_) (fun w_ _ => rfl)
      obtain ⟨_, ⟨o0, _⟩⟩ := hf
      have e0 : a.tmps[0]? = some (.slice A0 l0.length c0) := o0.trans rfl
      unfold execOp
      simp only [PrintLast.eval_of e0]
      rfl
    refine steps_cons ?_ ?_
    · refine stepO_call rfl [(2, 7)] [] (by kernel_rfl) Tryd.func84 (by kernel_rfl) rfl rfl (fun a w_ hg hf => ?_)
      obtain ⟨⟨⟨_, e7, rfl⟩, _⟩, _⟩ := hf
      replace e7 : a.tmps[7]? = some (.slice A0 l0.length c0) := e7
      refine ⟨#[.slice A0 l0.length c0, .int .i64 16, .int .i64 4], (by simp only [List.map_toArray, List.map_cons, List.map_nil, PrintLast.eval_of e7]; first | done | rfl), (impl_number.calls 20 A0 c0 l0 16 4 g1 w_ (Kd.C_below HR0.out (below_then HB1.out HB1.out.size hg)) HC0.out EG1.out).mono ?_⟩
      rintro e_ w2_ ⟨rfl, d_⟩
      have b_ := kept_drawn d_
      exact ⟨_, rfl, b_, rfl⟩
    refine steps_cons ?_ ?_
    · refine stepO_val rfl [] [0] (by kernel_rfl) (.slice A0 l0.length c0) (fun a w_ hg hf => ?_) (fun w_ _ => rfl)
      obtain ⟨_, ⟨o0, _⟩⟩ := hf
      have e0 : a.tmps[0]? = some (.slice A0 l0.length c0) := o0.trans rfl
      unfold execOp
      simp only [PrintLast.eval_of e0]
      rfl
    refine steps_cons ?_ ?_
    · refine stepO_call rfl [(4, 9)] [] (by kernel_rfl) Tryd.func84 (by kernel_rfl) rfl rfl (fun a w_ hg hf => ?_)
      obtain ⟨⟨⟨_, e9, rfl⟩, _⟩, _⟩ := hf
      replace e9 : a.tmps[9]? = some (.slice A0 l0.length c0) := e9
      refine ⟨#[.slice A0 l0.length c0, .int .i64 20, .int .i64 4], (by simp only [List.map_toArray, List.map_cons, List.map_nil, PrintLast.eval_of e9]; first | done | rfl), (impl_number.calls 20 A0 c0 l0 20 4 g2 w_ (Kd.C_below HR0.out (below_then HB1.out HB1.out.size hg)) HC0.out EG2.out).mono ?_⟩
      rintro e_ w2_ ⟨rfl, d_⟩
      have b_ := kept_drawn d_
      exact ⟨_, rfl, b_, rfl⟩
    refine steps_cons ?_ ?_
    · refine stepO_val rfl [] [0] (by kernel_rfl) (.slice A0 l0.length c0) (fun a w_ hg hf => ?_) (fun w_ _ => rfl)
      obtain ⟨_, ⟨o0, _⟩⟩ := hf
      have e0 : a.tmps[0]? = some (.slice A0 l0.length c0) := o0.trans rfl
      unfold execOp
      simp only [PrintLast.eval_of e0]
      rfl
    refine steps_cons ?_ ?_
    · refine stepO_call rfl [(6, 11)] [] (by kernel_rfl) Tryd.func84 (by kernel_rfl) rfl rfl (fun a w_ hg hf => ?_)
      obtain ⟨⟨⟨_, e11, rfl⟩, _⟩, _⟩ := hf
      replace e11 : a.tmps[11]? = some (.slice A0 l0.length c0) := e11
      refine ⟨#[.slice A0 l0.length c0, .int .i64 24, .int .i64 8], (by simp only [List.map_toArray, List.map_cons, List.map_nil, PrintLast.eval_of e11]; first | done | rfl), (impl_number.calls 20 A0 c0 l0 24 8 g3 w_ (Kd.C_below HR0.out (below_then HB1.out HB1.out.size hg)) HC0.out EG3.out).mono ?_⟩
      rintro e_ w2_ ⟨rfl, d_⟩
      have b_ := kept_drawn d_
      exact ⟨_, rfl, b_, rfl⟩
    refine steps_cons ?_ ?_
    · refine stepO_val rfl [] [0] (by kernel_rfl) (.slice A0 l0.length c0) (fun a w_ hg hf => ?_) (fun w_ _ => rfl)
      obtain ⟨_, ⟨o0, _⟩⟩ := hf
      have e0 : a.tmps[0]? = some (.slice A0 l0.length c0) := o0.trans rfl
      unfold execOp
      simp only [PrintLast.eval_of e0]
      rfl
    refine steps_cons ?_ ?_
    · refine stepO_call rfl [(8, 13)] [] (by kernel_rfl) Tryd.func84 (by kernel_rfl) rfl rfl (fun a w_ hg hf => ?_)
      obtain ⟨⟨⟨_, e13, rfl⟩, _⟩, _⟩ := hf
      replace e13 : a.tmps[13]? = some (.slice A0 l0.length c0) := e13
      refine ⟨#[.slice A0 l0.length c0, .int .i64 32, .int .i64 8], (by simp only [List.map_toArray, List.map_cons, List.map_nil, PrintLast.eval_of e13]; first | done | rfl), (impl_number.calls 20 A0 c0 l0 32 8 g4 w_ (Kd.C_below HR0.out (below_then HB1.out HB1.out.size hg)) HC0.out EG4.out).mono ?_⟩
      rintro e_ w2_ ⟨rfl, d_⟩
      have b_ := kept_drawn d_
      exact ⟨_, rfl, b_, rfl⟩
    refine steps_cons ?_ ?_
    · refine stepO_val rfl [] [0] (by kernel_rfl) (.slice A0 l0.length c0) (fun a w_ hg hf => ?_) (fun w_ _ => rfl)
      obtain ⟨_, ⟨o0, _⟩⟩ := hf
      have e0 : a.tmps[0]? = some (.slice A0 l0.length c0) := o0.trans rfl
      unfold execOp
      simp only [PrintLast.eval_of e0]
      rfl
    refine steps_cons ?_ ?_
    · refine stepO_call rfl [(10, 15)] [] (by kernel_rfl) Tryd.func84 (by kernel_rfl) rfl rfl (fun a w_ hg hf => ?_)
      obtain ⟨⟨⟨_, e15, rfl⟩, _⟩, _⟩ := hf
      replace e15 : a.tmps[15]? = some (.slice A0 l0.length c0) := e15
      refine ⟨#[.slice A0 l0.length c0, .int .i64 40, .int .i64 4], (by simp only [List.map_toArray, List.map_cons, List.map_nil, PrintLast.eval_of e15]; first | done | rfl), (impl_number.calls 20 A0 c0 l0 40 4 g5 w_ (Kd.C_below HR0.out (below_then HB1.out HB1.out.size hg)) HC0.out EG5.out).mono ?_⟩
      rintro e_ w2_ ⟨rfl, d_⟩
      have b_ := kept_drawn d_
      exact ⟨_, rfl, b_, rfl⟩
    refine steps_cons ?_ ?_
    · refine stepO_val rfl [] [0] (by kernel_rfl) (.slice A0 l0.length c0) (fun a w_ hg hf => ?_) (fun w_ _ => rfl)
      obtain ⟨_, ⟨o0, _⟩⟩ := hf
      have e0 : a.tmps[0]? = some (.slice A0 l0.length c0) := o0.trans rfl
      unfold execOp
      simp only [PrintLast.eval_of e0]
      rfl
    refine steps_cons ?_ ?_
    · refine stepO_call rfl [(12, 17)] [] (by kernel_rfl) Tryd.func84 (by kernel_rfl) rfl rfl (fun a w_ hg hf => ?_)
      obtain ⟨⟨⟨_, e17, rfl⟩, _⟩, _⟩ := hf
      replace e17 : a.tmps[17]? = some (.slice A0 l0.length c0) := e17
      refine ⟨#[.slice A0 l0.length c0, .int .i64 44, .int .i64 4], (by simp only [List.map_toArray, List.map_cons, List.map_nil, PrintLast.eval_of e17]; first | done | rfl), (impl_number.calls 20 A0 c0 l0 44 4 g6 w_ (Kd.C_below HR0.out (below_then HB1.out HB1.out.size hg)) HC0.out EG6.out).mono ?_⟩
      rintro e_ w2_ ⟨rfl, d_⟩
      have b_ := kept_drawn d_
      exact ⟨_, rfl, b_, rfl⟩
    refine steps_cons ?_ ?_
    · refine stepO_val rfl [] [0] (by kernel_rfl) (.slice A0 l0.length c0) (fun a w_ hg hf => ?_) (fun w_ _ => rfl)
      obtain ⟨_, ⟨o0, _⟩⟩ := hf
      have e0 : a.tmps[0]? = some (.slice A0 l0.length c0) := o0.trans rfl
      unfold execOp
      simp only [PrintLast.eval_of e0]
      rfl
    refine steps_cons ?_ ?_
    · refine stepO_val rfl [(14, 19)] [] (by kernel_rfl) (.slice A20 q20.length k20) (fun a w_ hg hf => ?_) (fun w_ _ => rfl)
      obtain ⟨⟨⟨_, e19, rfl⟩, _⟩, _⟩ := hf
      replace e19 : a.tmps[19]? = some (.slice A0 l0.length c0) := e19
      unfold execOp
      simp only [PrintLast.eval_of e19, Act.eval]
      go_simp
      (try rfl)
    refine steps_cons ?_ ?_
    · refine stepO_call rfl [(15, 20)] [] (by kernel_rfl) Tryd.func85 (by kernel_rfl) rfl rfl (fun a w_ hg hf => ?_)
      obtain ⟨⟨⟨_, e20, rfl⟩, _⟩, _⟩ := hf
      replace e20 : a.tmps[20]? = some (.slice A20 q20.length k20) := e20
      refine ⟨#[.slice A20 q20.length k20], (by simp only [List.map_toArray, List.map_cons, List.map_nil, PrintLast.eval_of e20]; first | done | rfl), (impl_getRoot.calls A20 k20 q20 ri w_ (Kd.C_below HR20.out (below_then HB1.out HB1.out.size hg)) HC20.out EG20.out).mono ?_⟩
      rintro e_ w2_ ⟨rfl, b_⟩
      exact ⟨_, rfl, b_, rfl⟩
    refine steps_cons ?_ ?_
    · refine stepO_val rfl [] [0] (by kernel_rfl) (.slice A0 l0.length c0) (fun a w_ hg hf => ?_) (fun w_ _ => rfl)
      obtain ⟨_, ⟨o0, _⟩⟩ := hf
      have e0 : a.tmps[0]? = some (.slice A0 l0.length c0) := o0.trans rfl
      unfold execOp
      simp only [PrintLast.eval_of e0]
      rfl
    refine steps_cons ?_ ?_
    · refine stepO_val rfl [(17, 22)] [] (by kernel_rfl) (.slice A23 q23.length k23) (fun a w_ hg hf => ?_) (fun w_ _ => rfl)
      obtain ⟨⟨⟨_, e22, rfl⟩, _⟩, _⟩ := hf
      replace e22 : a.tmps[22]? = some (.slice A0 l0.length c0) := e22
      unfold execOp
      simp only [PrintLast.eval_of e22, Act.eval]
      go_simp
      (try rfl)
    refine steps_cons ?_ ?_
    · refine stepO_call rfl [(18, 23)] [] (by kernel_rfl) Tryd.func85 (by kernel_rfl) rfl rfl (fun a w_ hg hf => ?_)
      obtain ⟨⟨⟨_, e23, rfl⟩, _⟩, _⟩ := hf
      replace e23 : a.tmps[23]? = some (.slice A23 q23.length k23) := e23
      refine ⟨#[.slice A23 q23.length k23], (by simp only [List.map_toArray, List.map_cons, List.map_nil, PrintLast.eval_of e23]; first | done | rfl), (impl_getRoot.calls A23 k23 q23 rm w_ (Kd.C_below HR23.out (below_then HB1.out HB1.out.size hg)) HC23.out EG23.out).mono ?_⟩
      rintro e_ w2_ ⟨rfl, b_⟩
      exact ⟨_, rfl, b_, rfl⟩
    refine steps_cons ?_ ?_
    · refine stepO_val rfl [(1, 6), (3, 8), (5, 10), (7, 12), (9, 14), (11, 16), (13, 18), (16, 21), (19, 24)] [] (by kernel_rfl) (.agg (nums .i64 ra).toArray) (fun a w_ hg hf => ?_) (fun w_ _ => rfl)
      obtain ⟨⟨⟨_, e6, rfl⟩, ⟨_, e8, rfl⟩, ⟨_, e10, rfl⟩, ⟨_, e12, rfl⟩, ⟨_, e14, rfl⟩, ⟨_, e16, rfl⟩, ⟨_, e18, rfl⟩, ⟨_, e21, rfl⟩, ⟨_, e24, rfl⟩, _⟩, _⟩ := hf
      replace e6 : a.tmps[6]? = some (.int .i64 g0) := e6
      replace e8 : a.tmps[8]? = some (.int .i64 g1) := e8
      replace e10 : a.tmps[10]? = some (.int .i64 g2) := e10
      replace e12 : a.tmps[12]? = some (.int .i64 g3) := e12
      replace e14 : a.tmps[14]? = some (.int .i64 g4) := e14
      replace e16 : a.tmps[16]? = some (.int .i64 g5) := e16
      replace e18 : a.tmps[18]? = some (.int .i64 g6) := e18
      replace e21 : a.tmps[21]? = some (.agg (nums .i64 ri).toArray) := e21
      replace e24 : a.tmps[24]? = some (.agg (nums .i64 rm).toArray) := e24
      unfold execOp
      simp only [PrintLast.eval_of e6, PrintLast.eval_of e8, PrintLast.eval_of e10, PrintLast.eval_of e12, PrintLast.eval_of e14, PrintLast.eval_of e16, PrintLast.eval_of e18, PrintLast.eval_of e21, PrintLast.eval_of e24, List.map_toArray, List.map_cons, List.map_nil, Sem.run_bind, Sem.run_pure, Result.andThen_ok, BU_.out]
    refine steps_cons ?_ ?_
    · refine stepO_alloc rfl [] [] (by kernel_rfl) rfl (.agg (nums .i64 (List.replicate 68 0)).toArray) (nums .i64 (List.replicate 68 0)).toArray Z48 rfl (fun _ _ h => h)
    exact steps_nil
  · skip
    refine ends_cons (fun v0_ p0_ => ?_)
    obtain rfl : v0_ = _ := p0_
    refine ends_cons (fun v1_ p1_ => ?_)
    obtain rfl : v1_ = _ := p1_
    refine ends_cons (fun v2_ p2_ => ?_)
    obtain rfl : v2_ = _ := p2_
    refine ends_cons (fun v3_ p3_ => ?_)
    obtain rfl : v3_ = _ := p3_
    refine ends_cons (fun v4_ p4_ => ?_)
    obtain rfl : v4_ = _ := p4_
    refine ends_cons (fun v5_ p5_ => ?_)
    obtain rfl : v5_ = _ := p5_
    refine ends_cons (fun v6_ p6_ => ?_)
    obtain rfl : v6_ = _ := p6_
    refine ends_cons (fun v7_ p7_ => ?_)
    obtain rfl : v7_ = _ := p7_
    refine ends_cons (fun v8_ p8_ => ?_)
    obtain rfl : v8_ = _ := p8_
    refine ends_cons (fun v9_ p9_ => ?_)
    obtain rfl : v9_ = _ := p9_
    refine ends_cons (fun v10_ p10_ => ?_)
    obtain rfl : v10_ = _ := p10_
    refine ends_cons (fun v11_ p11_ => ?_)
    obtain rfl : v11_ = _ := p11_
    refine ends_cons (fun v12_ p12_ => ?_)
    obtain rfl : v12_ = _ := p12_
    refine ends_cons (fun v13_ p13_ => ?_)
    obtain rfl : v13_ = _ := p13_
    refine ends_cons (fun v14_ p14_ => ?_)
    obtain rfl : v14_ = _ := p14_
    refine ends_cons (fun v15_ p15_ => ?_)
    obtain rfl : v15_ = _ := p15_
    refine ends_cons (fun v16_ p16_ => ?_)
    obtain rfl : v16_ = _ := p16_
    refine ends_cons (fun v17_ p17_ => ?_)
    obtain rfl : v17_ = _ := p17_
    refine ends_cons (fun v18_ p18_ => ?_)
    obtain rfl : v18_ = _ := p18_
    refine ends_cons (fun v19_ p19_ => ?_)
    obtain rfl : v19_ = _ := p19_
    refine ends_cons (fun v20_ p20_ => ?_)
    obtain rfl : v20_ = _ := p20_
    refine ends_cons (fun v21_ p21_ => ?_)
    obtain ⟨g21_, l21_, rfl, n21_⟩ := p21_
    refine ends_nil ?_
    simp only [Act.put, List.setIfInBounds_toArray, List.set_cons_succ, List.set_cons_zero]
    have HB2 := Aside0.mk (below_then HB1.out HB1.out.size hgn)
    have H2_2 := Aside0.mk (blk_below H2.out hgn)
    rw [Ss1.out] at l21_
    have N21 := Aside0.mk n21_
    clear n21_ hgn HB1 H2 Z48
    simp only [List.drop_succ_cons, List.drop_zero]
    go_wp2_with (first | ((with_reducible refine gate_store (t := 48) (p := 3) (v := .tmp 25) rfl ?_); refine hx_store rfl rfl 48 (.tmp 3) (.tmp 25) rfl g21_ 68 rfl (nums .i64 ra).toArray rfl (by kernel_rfl) (nums_size _ _ _ NA.out) (nums_one _ _) N21.out (by simp [nums]) ?_; intro w4 t_ gg_; have HG4 := Aside0.mk gg_; have H2_3 := Aside0.mk (t_.keep (show s0 ≠ g21_ by omega) H2_2.out); have HB4 := Aside0.mk (t_.below HB2.out (by omega)); clear t_ gg_ N21 HB2 H2_2))
    (try simp only [Act.put, List.setIfInBounds_toArray, List.set_cons_succ, List.set_cons_zero])
    obtain ⟨zz, hzz⟩ : ∃ z, z = List.replicate 68 (0 : Int) := ⟨_, rfl⟩
    have hz_ := H2_3.out
    rw [← hzz] at hz_
    have HZ4 := Aside0.mk hz_
    have NZZ := Aside0.mk (show zz.length = 68 by rw [hzz]; simp)
    have HRA4 := HG4.out
    rw [← HRA.out] at HRA4
    have HU4 := Aside0.mk HRA4
    clear hz_ hzz H2_3 HRA4 HG4
    go_loopw [4, 26] (fun v4 v26 wr => ∃ (j : Nat) (u4 : Value), u4 = v4 ∧ v26 = .int .i64 (j : Int) ∧ Aside0 (j ≤ 31) ∧ Aside0 (wr.heap[g21_]? = some (.cells (nums .i64 (fsUp tp ss j)).toArray 48 (0, 0))) ∧ Aside0 (wr.heap[s0]? = some (.cells (nums .i64 zz).toArray 48 (0, 0))) ∧ Aside0 (Below w.heap.size w wr)) (fun _ v26 _ => 31 - (intOf v26).toNat)
    case atStart => exact ⟨0, _, rfl, rfl, ⟨Nat.zero_le _⟩, HU4, HZ4, HB4⟩
    case round =>
      clear HU4 HZ4 HB4
      obtain ⟨j, v4, rfl, rfl, hj, HGj, HZ, HB⟩ := hrel
      by_cases c9 : j < 31
      · have c9b0 : decide ((j : Int) < 31) = true := decide_eq_true (by omega)
        have c9b1 : decide (j < 31) = true := decide_eq_true c9
        have q3 : ((j : Int) < 31) = True := eq_true (by omega)
        have q4 : (0 ≤ (j : Int)) = True := eq_true (by omega)
        have q5 : (j < 31) = True := eq_true c9
        obtain ⟨p, hp⟩ : ∃ p, p = ss.getD j 0 := ⟨_, rfl⟩
        have EGJ := Aside0.mk (show impl_number.f 20 l0 ((176 + 4 * j : Nat) : Int) 4 = some p by rw [hp, HSS.out, snapsOf_get _ _ c9, ← wrap4 (seg_byt HBY.out _ _) (by rw [seg_le _ _ (by rw [HL.out]; omega)]; decide)]; exact number_f l0 (176 + 4 * j) 4 HBY.out (by decide) (by rw [HL.out]; omega) (by rw [HL.out]; decide) 20 (by decide))
        have HLO := Aside0.mk (show wrap64 (176 + wrap64 (4 * (j : Int))) = ((176 + 4 * j : Nat) : Int) by rw [show wrap64 (4 * (j : Int)) = ((4 * j : Nat) : Int) by unfold wrap64; omega]; unfold wrap64; omega)
        obtain ⟨L, hL⟩ : ∃ L, L = fsUp tp ss j := ⟨_, rfl⟩
        have hg_ := HGj.out
        rw [← hL] at hg_
        have HG := Aside0.mk hg_
        have HUL := Aside0.mk (show L.length = 68 by rw [hL]; exact fsUp_length HTL.out HSL.out (by omega))
        have HLL := Aside0.mk hL
        have HPV := Aside0.mk hp
        have C9 := Aside0.mk c9
        clear hp hL hg_ HGj c9
        go_wp2_with (first | ((with_reducible refine gate_dst (N := 34) rfl ?_); refine goesL_ (some 34) rfl rfl Tryd.func84 (by kernel_rfl) rfl #[.slice A0 l0.length c0, .int .i64 ((176 + 4 * j : Nat) : Int), .int .i64 4] rfl (by (try simp only [List.map_toArray, List.map_cons, List.map_nil]); first | done | rfl | (rw [← HLO.out]; rfl)) ?_; refine (impl_number.calls 20 A0 c0 l0 ((176 + 4 * j : Nat) : Int) 4 p _ (Kd.C_below HR0.out HB.out) HC0.out EGJ.out).mono ?_; rintro e_ w5 ⟨rfl, d_⟩; refine ⟨_, rfl, ?_⟩; have b_ := kept_drawn d_; have HG5 := Aside0.mk (blk_below HG.out b_); have HZ5 := Aside0.mk (blk_below HZ.out b_); have HB5 := Aside0.mk (below_then HB.out HB.out.size b_); clear d_; clear b_ HG HZ HB) | ((with_reducible refine gate_store (t := 3) (p := 36) (v := .tmp 34) rfl ?_); refine hx_storef rfl rfl 3 (.tmp 36) (.tmp 34) rfl g21_ (37 + j) (by first | rfl | (simp [Act.eval]; done)) p rfl (by kernel_rfl) HG5.out (by rw [HUL.out]; have := C9.out; omega) ?_; intro w6 L6 t_ hl6 hn6 g_; have HG6 := Aside0.mk g_; have HZ6 := Aside0.mk (t_.keep (show s0 ≠ g21_ by omega) HZ5.out); have HB6 := Aside0.mk (t_.below HB5.out (by omega)); clear t_ g_ hn6 HG5 HZ5 HB5))
        go_roundw
        case rel => exact ⟨j + 1, _, rfl, by first | rw [show wrap64 ((j : Int) + 1) = ((j + 1 : Nat) : Int) by (have := C9.out; unfold wrap64; omega)] | (simp; done), ⟨by have := C9.out; omega⟩, ⟨by
          have h_ := HG6.out
          rw [hl6.out, HLL.out, HPV.out, fsUp_set HTL.out HSL.out C9.out] at h_
          exact h_⟩, HZ6, HB6⟩
        case measure =>
          (try rw [show wrap64 ((j : Int) + 1) = ((j + 1 : Nat) : Int) by (have := C9.out; unfold wrap64; omega)])
          simp only [intOf]
          have := C9.out
          omega
      · obtain rfl : j = 31 := by have := hj.out; omega
        have c9b0 : decide ((31 : Int) < 31) = false := by decide
        have hg_ := HGj.out
        rw [fsUp_all HSL.out, ← HRZ.out] at hg_
        have HG := Aside0.mk hg_
        clear c9 hg_ HGj
        go_wp2_with (first | ((with_reducible refine gate_dst (N := 38) rfl ?_); refine hx_load rfl 48 (.tmp 3) rfl g21_ 68 rfl Tryd.underlying48 rfl (by kernel_rfl) HG.out (nums_size _ _ _ NL.out) ?_) | ((with_reducible refine gate_store (t := 48) (p := 2) (v := .tmp 38) rfl ?_); refine hx_store rfl rfl 48 (.tmp 2) (.tmp 38) rfl s0 68 rfl (nums .i64 rz).toArray rfl (by kernel_rfl) (nums_size _ _ _ NL.out) (nums_one _ _) HZ.out (by simp [nums, NZZ.out]) ?_; intro we t_ gg_; have HE := Aside0.mk gg_; have HEB := Aside0.mk (t_.below HB.out (by omega)); clear t_ gg_ HZ HB ))
        exact bodyPost_ret (results_cell_row rfl _ _ s0 48 _ (0, 0) _ rfl HE.out Tryd.underlying48 rfl (by rw [nums_size _ _ 68 NL.out]; kernel_rfl)) rfl ⟨rfl, HEB.out⟩

/-! ### bytes_Equal: function 83 -/
def bytes_Equal.f (l0 : List Int) (l1 : List Int) : Option (Bool) := some ((strOfNums l0).toList == (strOfNums l1).toList)
set_option maxHeartbeats 8000000 in
set_option maxRecDepth 100000 in
theorem bytes_Equal.calls (A0 : Option Addr) (c0 : Nat) (l0 : List Int) (A1 : Option Addr) (c1 : Nat) (l1 : List Int) (r : Bool) (w : World) (hr0 : Kd.C (Kd.int .u8) w A0 l0.length l0) (hc0 : l0.length ≤ c0) (hr1 : Kd.C (Kd.int .u8) w A1 l1.length l1) (hc1 : l1.length ≤ c1) (h : bytes_Equal.f l0 l1 = some r) :
    Calls Tryd.prog 83 #[.slice A0 l0.length c0, .slice A1 l1.length c1] w fun e w' => e = .returned (.bool r) ∧ Drawn0 w w' := by
  have HR0 := Aside0.mk hr0
  have HC0 := Aside0.mk hc0
  clear hr0 hc0
  have HR1 := Aside0.mk hr1
  have HC1 := Aside0.mk hc1
  clear hr1 hc1
  have H : (some ((strOfNums l0).toList == (strOfNums l1).toList)) = some r := h
  clear h
  obtain rfl := Option.some.inj H
  have hcv3 := Kd.C_string (P := Tryd.prog) (A := A0) (c := c0) Tryd.underlying28 Tryd.underlying5 Tryd.underlying9 HR0.out
  have hcv4 := Kd.C_string (P := Tryd.prog) (A := A1) (c := c1) Tryd.underlying28 Tryd.underlying5 Tryd.underlying9 HR1.out
  go_enter Tryd.func83, Tryd.ntmps83
  go_wp2
  go_ret
  exact ⟨by first | rfl | (simp; done) | (simp [*]; done), by repeat (first | exact Drawn0.refl _ | apply Drawn0.step)⟩

open Go.Proofs.YtkghgjehjchajaaDoorW Go.Proofs.YtkghgjehjchajaaDoorW.PrintHand Go.Proofs.YtkghgjehjchajaaDoorW.PrintHx
/-! ### impl_Fsinfo: function 59 -/
open Go.Proofs.YtkghgjehjchajaaDoorW.PrintLe Go.Proofs.YtkghgjehjchajaaDoorW.PrintGrow Go.Proofs.YtkghgjehjchajaaDoorW.PrintDec Go.Proofs.YtkghgjehjchajaaDoorW.PrintIno Go.Proofs.YtkghgjehjchajaaDoorW.PrintTab2 Go.Proofs.YtkghgjehjchajaaDoorW.PrintTab3 Go.Proofs.YtkghgjehjchajaaDoorW.PrintFsi Go.Proofs.YtkghgjehjchajaaDoorW.PrintFsb Go.Proofs.YtkghgjehjchajaaDoorW.PrintFsd Go.Proofs.YtkghgjehjchajaaDoorW.PrintCrc
def impl_Fsinfo.f (l0 : List Int) : Option (List Int × Int) := if (∀ x ∈ l0, 0 ≤ x ∧ x ≤ 255) then some (decF (fsB l0) l0) else none
set_option maxHeartbeats 8000000 in
set_option maxRecDepth 100000 in
theorem impl_Fsinfo.calls (A0 : Option Addr) (c0 : Nat) (l0 : List Int) (r1 : List Int) (r2 : Int) (w : World) (hv : Kd.C (Kd.int .u8) w (some ⟨1, 0, none⟩) 8 magicF) (hr0 : Kd.C (Kd.int .u8) w A0 l0.length l0) (hc0 : l0.length ≤ c0) (h : impl_Fsinfo.f l0 = some (r1, r2)) :
    Calls Tryd.prog 59 #[.slice A0 l0.length c0, .int .i64 512, .func (.func 60) #[] #[], .func (.func 22) #[] #[]] w fun e w' => e = .returned (.tuple #[.agg (nums .i64 r1).toArray, .int .i64 r2]) ∧ Below w.heap.size w w' := by
  unfold impl_Fsinfo.f at h
  by_cases hdom : ∀ x ∈ l0, 0 ≤ x ∧ x ≤ 255
  case neg => rw [if_neg hdom] at h; cases h
  rw [if_pos hdom] at h
  replace h := Option.some.inj h
  have HV := Aside0.mk hv
  have HBY : Aside0 (Byt l0) := ⟨hdom⟩
  have HR0 := Aside0.mk hr0
  have HC0 := Aside0.mk hc0
  clear hdom hr0 hc0
  have Z48 : ∀ w, (zeroValue 48).run Tryd.prog w = .ok (.agg (nums .i64 (List.replicate 68 0)).toArray) w := fun _ => by kernel_rfl
  have NZ := Aside0.mk (show (List.replicate 68 (0 : Int)).length = 68 by simp)
  have HB0 : Aside0 (Below w.heap.size w w) := ⟨Below.refl _ _⟩
  obtain ⟨s0, Sz0⟩ : ∃ s0, Aside0 (w.heap.size = s0) := ⟨_, ⟨rfl⟩⟩
  have hw0 : w.heap.size ≤ s0 := Nat.le_of_eq Sz0.out
  have hw1 : s0 ≤ w.heap.size := Nat.le_of_eq Sz0.out.symm
  by_cases hl : l0.length = 512
  case neg =>
    have hd : decF (fsB l0) l0 = ((List.replicate 68 0), 21) := by unfold decF; rw [if_neg (fun h_ => hl h_.1)]
    rw [hd] at h
    simp only [Prod.mk.injEq] at h
    obtain ⟨rfl, rfl⟩ := h
    clear hd
    have k0 : ((l0.length : Int) != 512) = true := bne_iff_ne.2 (by omega)
    clear hl
    go_enter Tryd.func59, Tryd.ntmps59
    go_wp2_with (first | ((with_reducible refine gate_dst (N := 8) rfl ?_); refine hx_alloc rfl 8 rfl 48 rfl Sz0 (.agg (nums .i64 (List.replicate 68 0)).toArray) (nums .i64 (List.replicate 68 0)).toArray Z48 rfl ?_; intro w1 s1 Ls1 Ss1 b_ g_; have H8 := Aside0.mk g_; have HB1 := Aside0.mk (below_then HB0.out HB0.out.size b_); clear b_ g_ HB0) | ((with_reducible refine gate_dst (N := 10) rfl ?_); refine hx_alloc rfl 10 rfl 48 rfl Ss1 (.agg (nums .i64 (List.replicate 68 0)).toArray) (nums .i64 (List.replicate 68 0)).toArray Z48 rfl ?_; intro w2 s2 Ls2 Ss2 b_ g_; have H10 := Aside0.mk g_; have HB2 := Aside0.mk (below_then HB1.out HB1.out.size b_); have H8_2 := Aside0.mk (blk_below H8.out b_); clear b_ g_ HB1 H8) | ((with_reducible refine gate_dst (N := 18) rfl ?_); refine hx_load rfl 48 (.tmp 10) rfl s1 68 rfl Tryd.underlying48 rfl (by kernel_rfl) H10.out (nums_size _ _ _ NZ.out) ?_) | ((with_reducible refine gate_store (t := 48) (p := 8) (v := .tmp 18) rfl ?_); refine hx_store rfl rfl 48 (.tmp 8) (.tmp 18) rfl s0 68 rfl (nums .i64 (List.replicate 68 0)).toArray rfl (by kernel_rfl) (nums_size _ _ _ NZ.out) (nums_one _ _) H8_2.out (by simp [nums]) ?_; intro we t_ gg_; have HE := Aside0.mk gg_; have HEB := Aside0.mk (t_.below HB2.out (by omega)); clear t_ gg_ H8_2 HB2 ))
    exact bodyPost_ret (results_ct rfl _ _ s0 48 (nums .i64 (List.replicate 68 0)).toArray (0, 0) _ rfl HE.out Tryd.underlying48 rfl (by rw [nums_size _ _ _ NZ.out]; kernel_rfl)) rfl ⟨rfl, HEB.out⟩
  have k0 : ((l0.length : Int) != 512) = false := by rw [hl]; rfl
  have EF := Aside0.mk (show impl_getFsinfo.f l0 = some (fsB l0) from if_pos ⟨hl, HBY.out⟩)
  obtain ⟨ra, hra⟩ : ∃ a, a = fsB l0 := ⟨_, rfl⟩
  have NL := Aside0.mk (show ra.length = 68 by rw [hra]; exact fsB_length l0)
  rw [← hra] at EF h
  have HL := Aside0.mk hl
  clear hra hl
  by_cases hg : fsGood ra = true
  case neg =>
    have hd : decF ra l0 = ((List.replicate 68 0), 21) := by unfold decF; rw [if_neg (fun h_ => hg h_.2.1)]
    rw [hd] at h
    simp only [Prod.mk.injEq] at h
    obtain ⟨rfl, rfl⟩ := h
    clear hd
    have ER := Aside0.mk (show impl_EncodeFsinfo.f ra = some ([], 7) by unfold impl_EncodeFsinfo.f; rw [if_neg hg])
    clear hg
    go_enter Tryd.func59, Tryd.ntmps59
    go_wp2_with (first | ((with_reducible refine gate_dst (N := 8) rfl ?_); refine hx_alloc rfl 8 rfl 48 rfl Sz0 (.agg (nums .i64 (List.replicate 68 0)).toArray) (nums .i64 (List.replicate 68 0)).toArray Z48 rfl ?_; intro w1 s1 Ls1 Ss1 b_ g_; have H8 := Aside0.mk g_; have HB1 := Aside0.mk (below_then HB0.out HB0.out.size b_); clear b_ g_ HB0) | ((with_reducible refine gate_dst (N := 10) rfl ?_); refine hx_alloc rfl 10 rfl 48 rfl Ss1 (.agg (nums .i64 (List.replicate 68 0)).toArray) (nums .i64 (List.replicate 68 0)).toArray Z48 rfl ?_; intro w2 s2 Ls2 Ss2 b_ g_; have H10 := Aside0.mk g_; have HB2 := Aside0.mk (below_then HB1.out HB1.out.size b_); have H8_2 := Aside0.mk (blk_below H8.out b_); clear b_ g_ HB1 H8) | ((with_reducible refine gate_dst (N := 21) rfl ?_); refine goesV_ (some 21) rfl rfl Tryd.func60 (by kernel_rfl) rfl #[.slice A0 l0.length c0] rfl rfl (by (try simp only [List.map_toArray, List.map_cons, List.map_nil]); first | done | rfl) ?_; refine (impl_getFsinfo.calls A0 c0 l0 ra _ (Kd.C_below HR0.out HB2.out) HC0.out EF.out).mono ?_; rintro e_ w3 ⟨rfl, b_⟩; refine ⟨_, rfl, ?_⟩; have HB3 := Aside0.mk (below_then HB2.out HB2.out.size b_); have H8_3 := Aside0.mk (blk_below H8_2.out b_); have H10_3 := Aside0.mk (blk_below H10.out b_); have hz_ := blk_lt H10_3.out; have hy_ := blk_lt H8_3.out; obtain ⟨s3, Ss3⟩ : ∃ s, Aside0 (w3.heap.size = s) := ⟨_, ⟨rfl⟩⟩; rw [Ss3.out] at hz_ hy_; clear b_ H8_2 H10 HB2) | ((with_reducible refine gate_dst (N := 11) rfl ?_); refine hx_alloc rfl 11 rfl 48 rfl Ss3 (.agg (nums .i64 (List.replicate 68 0)).toArray) (nums .i64 (List.replicate 68 0)).toArray Z48 rfl ?_; intro w4 s4 Ls4 Ss4 b_ g_; have HG4 := Aside0.mk g_; have HB4 := Aside0.mk (below_then HB3.out HB3.out.size b_); have H8_4 := Aside0.mk (blk_below H8_3.out b_); have H10_4 := Aside0.mk (blk_below H10_3.out b_); clear b_ g_ HB3 H8_3 H10_3) | ((with_reducible refine gate_store (t := 48) (p := 11) (v := .tmp 21) rfl ?_); refine hx_store rfl rfl 48 (.tmp 11) (.tmp 21) rfl s3 68 rfl (nums .i64 ra).toArray rfl (by kernel_rfl) (nums_size _ _ _ NL.out) (nums_one _ _) HG4.out (by simp [nums]) ?_; intro w5 t_ gg_; have HG5 := Aside0.mk gg_; have H8_5 := Aside0.mk (t_.keep (show s0 ≠ s3 by omega) H8_4.out); have H10_5 := Aside0.mk (t_.keep (show s1 ≠ s3 by omega) H10_4.out); have HB5 := Aside0.mk (t_.below HB4.out (by omega)); clear t_ gg_ HG4 HB4 H8_4 H10_4) | ((with_reducible refine gate_dst (N := 24) rfl ?_); refine hx_load rfl 48 (.tmp 11) rfl s3 68 rfl Tryd.underlying48 rfl (by kernel_rfl) HG5.out (nums_size _ _ _ NL.out) ?_) | ((with_reducible refine gate_dst (N := 25) rfl ?_); refine goesV_ (some 25) rfl rfl Tryd.func22 (by kernel_rfl) rfl #[.agg (nums .i64 ra).toArray] rfl rfl (by (try simp only [List.map_toArray, List.map_cons, List.map_nil]); first | done | rfl) ?_; refine (impl_EncodeFsinfo.calls ra NL.out [] 7 _ (Kd.C_below HV.out HB5.out) ER.out).mono ?_; rintro e_ w6 ⟨v0_, rfl, R_, b_⟩; refine ⟨_, rfl, ?_⟩; have HG6 := Aside0.mk (blk_below HG5.out b_); have H8_6 := Aside0.mk (blk_below H8_5.out b_); have H10_6 := Aside0.mk (blk_below H10_5.out b_); have HB6 := Aside0.mk (below_then HB5.out HB5.out.size b_); clear b_ R_ HG5 H8_5 H10_5 HB5) | ((with_reducible refine gate_dst (N := 36) rfl ?_); refine hx_load rfl 48 (.tmp 10) rfl s1 68 rfl Tryd.underlying48 rfl (by kernel_rfl) H10_6.out (nums_size _ _ _ NZ.out) ?_) | ((with_reducible refine gate_store (t := 48) (p := 8) (v := .tmp 36) rfl ?_); refine hx_store rfl rfl 48 (.tmp 8) (.tmp 36) rfl s0 68 rfl (nums .i64 (List.replicate 68 0)).toArray rfl (by kernel_rfl) (nums_size _ _ _ NZ.out) (nums_one _ _) H8_6.out (by simp [nums]) ?_; intro we t_ gg_; have HE := Aside0.mk gg_; have HEB := Aside0.mk (t_.below HB6.out (by omega)); clear t_ gg_ H8_6 HB6 ))
    exact bodyPost_ret (results_ct rfl _ _ s0 48 (nums .i64 (List.replicate 68 0)).toArray (0, 0) _ rfl HE.out Tryd.underlying48 rfl (by rw [nums_size _ _ _ NZ.out]; kernel_rfl)) rfl ⟨rfl, HEB.out⟩
  have ER := Aside0.mk (show impl_EncodeFsinfo.f ra = some (fsBytes ra, 0) by unfold impl_EncodeFsinfo.f; rw [if_pos hg]; rfl)
  have hs0 : ((strOfNums (fsBytes ra)).toList == (strOfNums l0).toList) = decide (fsBytes ra = l0) := strOf_eq (fsBytes_byt ra) HBY.out
  by_cases he : fsBytes ra = l0
  case neg =>
    have hd : decF ra l0 = ((List.replicate 68 0), 21) := by unfold decF; rw [if_neg (fun h_ => he h_.2.2)]
    rw [hd] at h
    simp only [Prod.mk.injEq] at h
    obtain ⟨rfl, rfl⟩ := h
    clear hd
    rw [decide_eq_false he] at hs0
    clear hg he
    obtain ⟨rb, hrb⟩ : ∃ b, b = fsBytes ra := ⟨_, rfl⟩
    rw [← hrb] at ER hs0
    clear hrb
    have EQ := Aside0.mk (show bytes_Equal.f rb l0 = some false by unfold bytes_Equal.f; rw [hs0])
    clear hs0
    go_enter Tryd.func59, Tryd.ntmps59
    go_wp2_with (first | ((with_reducible refine gate_dst (N := 8) rfl ?_); refine hx_alloc rfl 8 rfl 48 rfl Sz0 (.agg (nums .i64 (List.replicate 68 0)).toArray) (nums .i64 (List.replicate 68 0)).toArray Z48 rfl ?_; intro w1 s1 Ls1 Ss1 b_ g_; have H8 := Aside0.mk g_; have HB1 := Aside0.mk (below_then HB0.out HB0.out.size b_); clear b_ g_ HB0) | ((with_reducible refine gate_dst (N := 10) rfl ?_); refine hx_alloc rfl 10 rfl 48 rfl Ss1 (.agg (nums .i64 (List.replicate 68 0)).toArray) (nums .i64 (List.replicate 68 0)).toArray Z48 rfl ?_; intro w2 s2 Ls2 Ss2 b_ g_; have H10 := Aside0.mk g_; have HB2 := Aside0.mk (below_then HB1.out HB1.out.size b_); have H8_2 := Aside0.mk (blk_below H8.out b_); clear b_ g_ HB1 H8) | ((with_reducible refine gate_dst (N := 21) rfl ?_); refine goesV_ (some 21) rfl rfl Tryd.func60 (by kernel_rfl) rfl #[.slice A0 l0.length c0] rfl rfl (by (try simp only [List.map_toArray, List.map_cons, List.map_nil]); first | done | rfl) ?_; refine (impl_getFsinfo.calls A0 c0 l0 ra _ (Kd.C_below HR0.out HB2.out) HC0.out EF.out).mono ?_; rintro e_ w3 ⟨rfl, b_⟩; refine ⟨_, rfl, ?_⟩; have HB3 := Aside0.mk (below_then HB2.out HB2.out.size b_); have H8_3 := Aside0.mk (blk_below H8_2.out b_); have H10_3 := Aside0.mk (blk_below H10.out b_); have hz_ := blk_lt H10_3.out; have hy_ := blk_lt H8_3.out; obtain ⟨s3, Ss3⟩ : ∃ s, Aside0 (w3.heap.size = s) := ⟨_, ⟨rfl⟩⟩; rw [Ss3.out] at hz_ hy_; clear b_ H8_2 H10 HB2) | ((with_reducible refine gate_dst (N := 11) rfl ?_); refine hx_alloc rfl 11 rfl 48 rfl Ss3 (.agg (nums .i64 (List.replicate 68 0)).toArray) (nums .i64 (List.replicate 68 0)).toArray Z48 rfl ?_; intro w4 s4 Ls4 Ss4 b_ g_; have HG4 := Aside0.mk g_; have HB4 := Aside0.mk (below_then HB3.out HB3.out.size b_); have H8_4 := Aside0.mk (blk_below H8_3.out b_); have H10_4 := Aside0.mk (blk_below H10_3.out b_); clear b_ g_ HB3 H8_3 H10_3) | ((with_reducible refine gate_store (t := 48) (p := 11) (v := .tmp 21) rfl ?_); refine hx_store rfl rfl 48 (.tmp 11) (.tmp 21) rfl s3 68 rfl (nums .i64 ra).toArray rfl (by kernel_rfl) (nums_size _ _ _ NL.out) (nums_one _ _) HG4.out (by simp [nums]) ?_; intro w5 t_ gg_; have HG5 := Aside0.mk gg_; have H8_5 := Aside0.mk (t_.keep (show s0 ≠ s3 by omega) H8_4.out); have H10_5 := Aside0.mk (t_.keep (show s1 ≠ s3 by omega) H10_4.out); have HB5 := Aside0.mk (t_.below HB4.out (by omega)); clear t_ gg_ HG4 HB4 H8_4 H10_4) | ((with_reducible refine gate_dst (N := 24) rfl ?_); refine hx_load rfl 48 (.tmp 11) rfl s3 68 rfl Tryd.underlying48 rfl (by kernel_rfl) HG5.out (nums_size _ _ _ NL.out) ?_) | ((with_reducible refine gate_dst (N := 25) rfl ?_); refine goesV_ (some 25) rfl rfl Tryd.func22 (by kernel_rfl) rfl #[.agg (nums .i64 ra).toArray] rfl rfl (by (try simp only [List.map_toArray, List.map_cons, List.map_nil]); first | done | rfl) ?_; refine (impl_EncodeFsinfo.calls ra NL.out rb 0 _ (Kd.C_below HV.out HB5.out) ER.out).mono ?_; rintro e_ w6 ⟨v0_, rfl, R_, b_⟩; obtain ⟨Ab, cb, rfl⟩ := Kd.R_slice R_; refine ⟨_, rfl, ?_⟩; have HG6 := Aside0.mk (blk_below HG5.out b_); have H8_6 := Aside0.mk (blk_below H8_5.out b_); have H10_6 := Aside0.mk (blk_below H10_5.out b_); have HB6 := Aside0.mk (below_then HB5.out HB5.out.size b_); have RR := Aside0.mk (Kd.R_reads' R_); clear b_ R_ HG5 H8_5 H10_5 HB5) | (go_at_call 83; (with_reducible refine (bytes_Equal.calls Ab cb rb A0 c0 l0 false _ RR.out.2.2 RR.out.2.1 (Kd.C_below HR0.out HB6.out) HC0.out EQ.out).mono ?_); rintro e_ w7 ⟨rfl, d_⟩; have b_ := kept_drawn d_; have HG7 := Aside0.mk (blk_below HG6.out b_); have H8_7 := Aside0.mk (blk_below H8_6.out b_); have H10_7 := Aside0.mk (blk_below H10_6.out b_); have HB7 := Aside0.mk (below_then HB6.out HB6.out.size b_); clear b_ d_ HG6 H8_6 H10_6 HB6) | ((with_reducible refine gate_dst (N := 36) rfl ?_); refine hx_load rfl 48 (.tmp 10) rfl s1 68 rfl Tryd.underlying48 rfl (by kernel_rfl) H10_7.out (nums_size _ _ _ NZ.out) ?_) | ((with_reducible refine gate_store (t := 48) (p := 8) (v := .tmp 36) rfl ?_); refine hx_store rfl rfl 48 (.tmp 8) (.tmp 36) rfl s0 68 rfl (nums .i64 (List.replicate 68 0)).toArray rfl (by kernel_rfl) (nums_size _ _ _ NZ.out) (nums_one _ _) H8_7.out (by simp [nums]) ?_; intro we t_ gg_; have HE := Aside0.mk gg_; have HEB := Aside0.mk (t_.below HB7.out (by omega)); clear t_ gg_ H8_7 HB7 ))
    exact bodyPost_ret (results_ct rfl _ _ s0 48 (nums .i64 (List.replicate 68 0)).toArray (0, 0) _ rfl HE.out Tryd.underlying48 rfl (by rw [nums_size _ _ _ NZ.out]; kernel_rfl)) rfl ⟨rfl, HEB.out⟩
  have hd : decF ra l0 = (ra, 0) := by unfold decF; rw [if_pos ⟨HL.out, hg, he⟩]
  rw [hd] at h
  simp only [Prod.mk.injEq] at h
  obtain ⟨rfl, rfl⟩ := h
  rw [decide_eq_true he] at hs0
  clear hd
  clear hg he
  obtain ⟨rb, hrb⟩ : ∃ b, b = fsBytes ra := ⟨_, rfl⟩
  rw [← hrb] at ER hs0
  clear hrb
  have EQ := Aside0.mk (show bytes_Equal.f rb l0 = some true by unfold bytes_Equal.f; rw [hs0])
  clear hs0
  go_enter Tryd.func59, Tryd.ntmps59
  go_wp2_with (first | ((with_reducible refine gate_dst (N := 8) rfl ?_); refine hx_alloc rfl 8 rfl 48 rfl Sz0 (.agg (nums .i64 (List.replicate 68 0)).toArray) (nums .i64 (List.replicate 68 0)).toArray Z48 rfl ?_; intro w1 s1 Ls1 Ss1 b_ g_; have H8 := Aside0.mk g_; have HB1 := Aside0.mk (below_then HB0.out HB0.out.size b_); clear b_ g_ HB0) | ((with_reducible refine gate_dst (N := 10) rfl ?_); refine hx_alloc rfl 10 rfl 48 rfl Ss1 (.agg (nums .i64 (List.replicate 68 0)).toArray) (nums .i64 (List.replicate 68 0)).toArray Z48 rfl ?_; intro w2 s2 Ls2 Ss2 b_ g_; have H10 := Aside0.mk g_; have HB2 := Aside0.mk (below_then HB1.out HB1.out.size b_); have H8_2 := Aside0.mk (blk_below H8.out b_); clear b_ g_ HB1 H8) | ((with_reducible refine gate_dst (N := 21) rfl ?_); refine goesV_ (some 21) rfl rfl Tryd.func60 (by kernel_rfl) rfl #[.slice A0 l0.length c0] rfl rfl (by (try simp only [List.map_toArray, List.map_cons, List.map_nil]); first | done | rfl) ?_; refine (impl_getFsinfo.calls A0 c0 l0 ra _ (Kd.C_below HR0.out HB2.out) HC0.out EF.out).mono ?_; rintro e_ w3 ⟨rfl, b_⟩; refine ⟨_, rfl, ?_⟩; have HB3 := Aside0.mk (below_then HB2.out HB2.out.size b_); have H8_3 := Aside0.mk (blk_below H8_2.out b_); have H10_3 := Aside0.mk (blk_below H10.out b_); have hz_ := blk_lt H10_3.out; have hy_ := blk_lt H8_3.out; obtain ⟨s3, Ss3⟩ : ∃ s, Aside0 (w3.heap.size = s) := ⟨_, ⟨rfl⟩⟩; rw [Ss3.out] at hz_ hy_; clear b_ H8_2 H10 HB2) | ((with_reducible refine gate_dst (N := 11) rfl ?_); refine hx_alloc rfl 11 rfl 48 rfl Ss3 (.agg (nums .i64 (List.replicate 68 0)).toArray) (nums .i64 (List.replicate 68 0)).toArray Z48 rfl ?_; intro w4 s4 Ls4 Ss4 b_ g_; have HG4 := Aside0.mk g_; have HB4 := Aside0.mk (below_then HB3.out HB3.out.size b_); have H8_4 := Aside0.mk (blk_below H8_3.out b_); have H10_4 := Aside0.mk (blk_below H10_3.out b_); clear b_ g_ HB3 H8_3 H10_3) | ((with_reducible refine gate_store (t := 48) (p := 11) (v := .tmp 21) rfl ?_); refine hx_store rfl rfl 48 (.tmp 11) (.tmp 21) rfl s3 68 rfl (nums .i64 ra).toArray rfl (by kernel_rfl) (nums_size _ _ _ NL.out) (nums_one _ _) HG4.out (by simp [nums]) ?_; intro w5 t_ gg_; have HG5 := Aside0.mk gg_; have H8_5 := Aside0.mk (t_.keep (show s0 ≠ s3 by omega) H8_4.out); have H10_5 := Aside0.mk (t_.keep (show s1 ≠ s3 by omega) H10_4.out); have HB5 := Aside0.mk (t_.below HB4.out (by omega)); clear t_ gg_ HG4 HB4 H8_4 H10_4) | ((with_reducible refine gate_dst (N := 24) rfl ?_); refine hx_load rfl 48 (.tmp 11) rfl s3 68 rfl Tryd.underlying48 rfl (by kernel_rfl) HG5.out (nums_size _ _ _ NL.out) ?_) | ((with_reducible refine gate_dst (N := 25) rfl ?_); refine goesV_ (some 25) rfl rfl Tryd.func22 (by kernel_rfl) rfl #[.agg (nums .i64 ra).toArray] rfl rfl (by (try simp only [List.map_toArray, List.map_cons, List.map_nil]); first | done | rfl) ?_; refine (impl_EncodeFsinfo.calls ra NL.out rb 0 _ (Kd.C_below HV.out HB5.out) ER.out).mono ?_; rintro e_ w6 ⟨v0_, rfl, R_, b_⟩; obtain ⟨Ab, cb, rfl⟩ := Kd.R_slice R_; refine ⟨_, rfl, ?_⟩; have HG6 := Aside0.mk (blk_below HG5.out b_); have H8_6 := Aside0.mk (blk_below H8_5.out b_); have H10_6 := Aside0.mk (blk_below H10_5.out b_); have HB6 := Aside0.mk (below_then HB5.out HB5.out.size b_); have RR := Aside0.mk (Kd.R_reads' R_); clear b_ R_ HG5 H8_5 H10_5 HB5) | (go_at_call 83; (with_reducible refine (bytes_Equal.calls Ab cb rb A0 c0 l0 true _ RR.out.2.2 RR.out.2.1 (Kd.C_below HR0.out HB6.out) HC0.out EQ.out).mono ?_); rintro e_ w7 ⟨rfl, d_⟩; have b_ := kept_drawn d_; have HG7 := Aside0.mk (blk_below HG6.out b_); have H8_7 := Aside0.mk (blk_below H8_6.out b_); have H10_7 := Aside0.mk (blk_below H10_6.out b_); have HB7 := Aside0.mk (below_then HB6.out HB6.out.size b_); clear b_ d_ HG6 H8_6 H10_6 HB6) | ((with_reducible refine gate_dst (N := 37) rfl ?_); refine hx_load rfl 48 (.tmp 11) rfl s3 68 rfl Tryd.underlying48 rfl (by kernel_rfl) HG7.out (nums_size _ _ _ NL.out) ?_) | ((with_reducible refine gate_store (t := 48) (p := 8) (v := .tmp 37) rfl ?_); refine hx_store rfl rfl 48 (.tmp 8) (.tmp 37) rfl s0 68 rfl (nums .i64 ra).toArray rfl (by kernel_rfl) (nums_size _ _ _ NL.out) (nums_one _ _) H8_7.out (by simp [nums]) ?_; intro we t_ gg_; have HE := Aside0.mk gg_; have HEB := Aside0.mk (t_.below HB7.out (by omega)); clear t_ gg_ H8_7 HB7 ))
  exact bodyPost_ret (results_ct rfl _ _ s0 48 (nums .i64 ra).toArray (0, 0) _ rfl HE.out Tryd.underlying48 rfl (by rw [nums_size _ _ _ NL.out]; kernel_rfl)) rfl ⟨rfl, HEB.out⟩

open Go.Proofs.YtkghgjehjchajaaDoorW Go.Proofs.YtkghgjehjchajaaDoorW.PrintHand Go.Proofs.YtkghgjehjchajaaDoorW.PrintHx
/-! ### impl_DecodeFsinfo: function 24 -/
open Go.Proofs.YtkghgjehjchajaaDoorW.PrintLe Go.Proofs.YtkghgjehjchajaaDoorW.PrintGrow Go.Proofs.YtkghgjehjchajaaDoorW.PrintDec Go.Proofs.YtkghgjehjchajaaDoorW.PrintIno Go.Proofs.YtkghgjehjchajaaDoorW.PrintTab2 Go.Proofs.YtkghgjehjchajaaDoorW.PrintTab3 Go.Proofs.YtkghgjehjchajaaDoorW.PrintFsi Go.Proofs.YtkghgjehjchajaaDoorW.PrintFsb Go.Proofs.YtkghgjehjchajaaDoorW.PrintFsd Go.Proofs.YtkghgjehjchajaaDoorW.PrintCrc
def impl_DecodeFsinfo.f (l0 : List Int) : Option (List Int × Int) := if (∀ x ∈ l0, 0 ≤ x ∧ x ≤ 255) then some (decF (fsB l0) l0) else none
set_option maxHeartbeats 8000000 in
set_option maxRecDepth 100000 in
theorem impl_DecodeFsinfo.calls (A0 : Option Addr) (c0 : Nat) (l0 : List Int) (r1 : List Int) (r2 : Int) (w : World) (hv : Kd.C (Kd.int .u8) w (some ⟨1, 0, none⟩) 8 magicF) (hr0 : Kd.C (Kd.int .u8) w A0 l0.length l0) (hc0 : l0.length ≤ c0) (h : impl_DecodeFsinfo.f l0 = some (r1, r2)) :
    Calls Tryd.prog 24 #[.slice A0 l0.length c0] w fun e w' => e = .returned (.tuple #[.agg (nums .i64 r1).toArray, .int .i64 r2]) ∧ Below w.heap.size w w' := by
  have hw_ : r1.length = 68 := by
    unfold impl_DecodeFsinfo.f at h
    split at h
    · obtain rfl := congrArg Prod.fst (Option.some.inj h)
      unfold decF
      split
      · exact (show (fsB l0).length = 68 from fsB_length l0)
      · simp
    · cases h
  have HD := Aside0.mk (show impl_Fsinfo.f l0 = some (r1, r2) from h)
  have NL := Aside0.mk hw_
  have HV := Aside0.mk hv
  have HR0 := Aside0.mk hr0
  have HC0 := Aside0.mk hc0
  clear h hw_ hr0 hc0
  have Z48 : ∀ w, (zeroValue 48).run Tryd.prog w = .ok (.agg (nums .i64 (List.replicate 68 0)).toArray) w := fun _ => by kernel_rfl
  have HB0 : Aside0 (Below w.heap.size w w) := ⟨Below.refl _ _⟩
  obtain ⟨s0, Sz0⟩ : ∃ s0, Aside0 (w.heap.size = s0) := ⟨_, ⟨rfl⟩⟩
  have hw0 : w.heap.size ≤ s0 := Nat.le_of_eq Sz0.out
  have hw1 : s0 ≤ w.heap.size := Nat.le_of_eq Sz0.out.symm
  go_enter Tryd.func24, Tryd.ntmps24
  go_wp2_with (first | ((with_reducible refine gate_dst (N := 2) rfl ?_); refine hx_alloc rfl 2 rfl 48 rfl Sz0 (.agg (nums .i64 (List.replicate 68 0)).toArray) (nums .i64 (List.replicate 68 0)).toArray Z48 rfl ?_; intro w1 s1 Ls1 Ss1 b_ g_; have H2 := Aside0.mk g_; have HB1 := Aside0.mk (below_then HB0.out HB0.out.size b_); clear b_ g_ HB0) | ((with_reducible refine gate_dst (N := 5) rfl ?_); refine goesL_ (some 5) rfl rfl Tryd.func59 (by kernel_rfl) rfl #[.slice A0 l0.length c0, .int .i64 512, .func (.func 60) #[] #[], .func (.func 22) #[] #[]] rfl (by (try simp only [List.map_toArray, List.map_cons, List.map_nil]); first | done | rfl) ?_; refine (impl_Fsinfo.calls A0 c0 l0 r1 r2 _ (Kd.C_below HV.out HB1.out) (Kd.C_below HR0.out HB1.out) HC0.out HD.out).mono ?_; rintro e_ w2 ⟨rfl, b_⟩; refine ⟨_, rfl, ?_⟩; have HB2 := Aside0.mk (below_then HB1.out HB1.out.size b_); have H2_2 := Aside0.mk (blk_below H2.out b_); clear b_ H2 HB1) | ((with_reducible refine gate_store (t := 48) (p := 2) (v := .tmp 6) rfl ?_); refine hx_store rfl rfl 48 (.tmp 2) (.tmp 6) rfl s0 68 rfl (nums .i64 r1).toArray rfl (by kernel_rfl) (nums_size _ _ _ NL.out) (nums_one _ _) H2_2.out (by simp [nums]) ?_; intro we t_ gg_; have HE := Aside0.mk gg_; have HEB := Aside0.mk (t_.below HB2.out (by omega)); clear t_ gg_ H2_2 HB2 ))
  exact bodyPost_ret (results_ct rfl _ _ s0 48 (nums .i64 r1).toArray (0, 0) _ rfl HE.out Tryd.underlying48 rfl (by rw [nums_size _ _ _ NL.out]; kernel_rfl)) rfl ⟨rfl, HEB.out⟩

/-! ### impl_rightSize: function 91 -/
def impl_rightSize.f (a0 : Int) : Option (Bool) := if (Int.tmod a0 512) = 0 then (if (wrap64 (Int.tdiv a0 512)) ≥ 64 then (some (decide ((wrap64 (Int.tdiv a0 512)) ≤ 2048))) else (some false)) else (some false)
set_option maxHeartbeats 8000000 in
set_option maxRecDepth 100000 in
theorem impl_rightSize.calls (a0 : Int) (r : Bool) (w : World) (h : impl_rightSize.f a0 = some r) :
    Calls Tryd.prog 91 #[.int .i64 a0] w fun e w' => e = .returned (.bool r) ∧ Drawn0 w w' := by
  have H : (if (Int.tmod a0 512) = 0 then (if (wrap64 (Int.tdiv a0 512)) ≥ 64 then (some (decide ((wrap64 (Int.tdiv a0 512)) ≤ 2048))) else (some false)) else (some false)) = some r := h
  clear h
  by_cases c2 : (Int.tmod a0 512) = 0
  · rw [if_pos c2] at H
    have c2b0 : ((Int.tmod a0 512) == 0) = true := beq_iff_eq.mpr c2
    have c2b1 : ((Int.tmod a0 512) != 0) = false := bne_eq_false_iff_eq.mpr c2
    clear c2
    by_cases c3 : (wrap64 (Int.tdiv a0 512)) ≥ 64
    · rw [if_pos c3] at H
      have c3b0 : decide (64 ≤ (wrap64 (Int.tdiv a0 512))) = true := decide_eq_true c3
      clear c3
      obtain rfl := Option.some.inj H
      go_enter Tryd.func91, Tryd.ntmps91
      go_wp2
      go_ret
      exact ⟨by first | rfl | (simp; done) | (simp [*]; done), by repeat (first | exact Drawn0.refl _ | apply Drawn0.step)⟩
    · rw [if_neg c3] at H
      have c3b0 : decide (64 ≤ (wrap64 (Int.tdiv a0 512))) = false := decide_eq_false c3
      clear c3
      obtain rfl := Option.some.inj H
      go_enter Tryd.func91, Tryd.ntmps91
      go_wp2
      go_ret
      exact ⟨by first | rfl | (simp; done) | (simp [*]; done), by repeat (first | exact Drawn0.refl _ | apply Drawn0.step)⟩
  · rw [if_neg c2] at H
    have c2b0 : ((Int.tmod a0 512) == 0) = false := beq_eq_false_iff_ne.mpr c2
    have c2b1 : ((Int.tmod a0 512) != 0) = true := bne_iff_ne.mpr c2
    obtain rfl := Option.some.inj H
    go_enter Tryd.func91, Tryd.ntmps91
    go_wp2
    go_ret
    exact ⟨by first | rfl | (simp; done) | (simp [*]; done), by repeat (first | exact Drawn0.refl _ | apply Drawn0.step)⟩

open Go.Proofs.YtkghgjehjchajaaDoorW Go.Proofs.YtkghgjehjchajaaDoorW.PrintHand Go.Proofs.YtkghgjehjchajaaDoorW.PrintHx
/-! ### impl_blockOf: function 92 -/
open Go.Proofs.YtkghgjehjchajaaDoorW.PrintLe Go.Proofs.YtkghgjehjchajaaDoorW.PrintGrow Go.Proofs.YtkghgjehjchajaaDoorW.PrintDec Go.Proofs.YtkghgjehjchajaaDoorW.PrintIno Go.Proofs.YtkghgjehjchajaaDoorW.PrintTab2 Go.Proofs.YtkghgjehjchajaaDoorW.PrintTab3 Go.Proofs.YtkghgjehjchajaaDoorW.PrintFsi Go.Proofs.YtkghgjehjchajaaDoorW.PrintFsb Go.Proofs.YtkghgjehjchajaaDoorW.PrintFsd Go.Proofs.YtkghgjehjchajaaDoorW.PrintCrc Go.Proofs.YtkghgjehjchajaaDoorW.PrintChs
set_option maxHeartbeats 8000000 in
set_option maxRecDepth 100000 in
theorem impl_blockOf.calls (A0 : Option Addr) (c0 : Nat) (l0 : List Int) (b : Nat) (w : World) (hr0 : Kd.C (Kd.int .u8) w A0 l0.length l0) (hc0 : l0.length ≤ c0) (hb : 512 * b + 512 ≤ l0.length) (hl : l0.length ≤ 1048576) :
    Calls Tryd.prog 92 #[.slice A0 l0.length c0, .int .i64 (b : Int)] w fun e w' => (∃ A' c', e = .returned (.slice A' (blk l0 b).length c') ∧ Kd.C (Kd.int .u8) w' A' (blk l0 b).length (blk l0 b) ∧ (blk l0 b).length ≤ c') ∧ Below w.heap.size w w' := by
  have HR0 := Aside0.mk hr0
  have HC0 := Aside0.mk hc0
  have HB := Aside0.mk hb
  have HLO := Aside0.mk (show wrap64 ((b : Int) * 512) = ((512 * b : Nat) : Int) by unfold wrap64; omega)
  have HHI := Aside0.mk (show wrap64 (wrap64 ((b : Int) + 1) * 512) = ((512 * b + 512 : Nat) : Int) by rw [show wrap64 ((b : Int) + 1) = ((b + 1 : Nat) : Int) by unfold wrap64; omega]; unfold wrap64; omega)
  clear hr0 hc0 hb hl
  go_enter Tryd.func92, Tryd.ntmps92
  go_wp2_with (first | ((with_reducible refine gate_dst (N := 11) rfl ?_); refine hx_mid rfl 28 5 (.tmp 5) (.tmp 7) (.tmp 10) rfl A0 c0 l0 (512 * b) (512 * b + 512) rfl (by rw [← HLO.out]; rfl) (by rw [← HHI.out]; rfl) Tryd.underlying28 (by kernel_rfl) (by omega) (by have := HB.out; omega) HC0.out HR0.out ?_; intro A1 c1 q1 hq1 hr1 hc1))
  have hq := hq1.out
  rw [show 512 * b + 512 - 512 * b = 512 by omega] at hq
  subst hq
  go_ret
  exact ⟨⟨A1, c1, rfl, hr1.out, hc1.out⟩, Below.refl _ _⟩

open Go.Proofs.YtkghgjehjchajaaDoorW Go.Proofs.YtkghgjehjchajaaDoorW.PrintHand Go.Proofs.YtkghgjehjchajaaDoorW.PrintHx
/-! ### impl_openVolume: function 70 -/
open Go.Proofs.YtkghgjehjchajaaDoorW.PrintLe Go.Proofs.YtkghgjehjchajaaDoorW.PrintGrow Go.Proofs.YtkghgjehjchajaaDoorW.PrintDec Go.Proofs.YtkghgjehjchajaaDoorW.PrintIno Go.Proofs.YtkghgjehjchajaaDoorW.PrintTab2 Go.Proofs.YtkghgjehjchajaaDoorW.PrintTab3 Go.Proofs.YtkghgjehjchajaaDoorW.PrintFsi Go.Proofs.YtkghgjehjchajaaDoorW.PrintFsb Go.Proofs.YtkghgjehjchajaaDoorW.PrintFsd Go.Proofs.YtkghgjehjchajaaDoorW.PrintCrc Go.Proofs.YtkghgjehjchajaaDoorW.PrintChs
def impl_openVolume.at (f : Bool) (s : Int) : Int := match f with | true => s | false => -1
theorem impl_rightSize.size (l : List Int) (h : l.length ≤ 1048576) : impl_rightSize.f (l.length : Int) = some (decide (sizeN l ≠ 0)) := by
  unfold impl_rightSize.f sizeN
  have e1 : wrap64 (Int.tdiv (l.length : Int) 512) = ((l.length / 512 : Nat) : Int) := by rw [show Int.tdiv (l.length : Int) 512 = ((l.length / 512 : Nat) : Int) from rfl]; unfold wrap64; omega
  have e2 : Int.tmod (l.length : Int) 512 = ((l.length % 512 : Nat) : Int) := rfl
  rw [e1, e2]
  by_cases c : l.length % 512 = 0 ∧ 64 ≤ l.length / 512 ∧ l.length / 512 ≤ 2048
  · rw [if_pos c, if_pos (by omega), if_pos (by omega), decide_eq_true (by omega), decide_eq_true (by omega)]
  · rw [if_neg c]
    repeat' split
    all_goals first | (simp; omega) | (simp; done)
set_option maxHeartbeats 8000000 in
set_option maxRecDepth 100000 in
theorem impl_openVolume.calls (A0 : Option Addr) (c0 : Nat) (l0 : List Int) (r1 : List Int) (r2 r3 : Int) (w : World) (hv : Kd.C (Kd.int .u8) w (some ⟨1, 0, none⟩) 8 magicF) (hr0 : Kd.C (Kd.int .u8) w A0 l0.length l0) (hc0 : l0.length ≤ c0) (hl : l0.length ≤ 1048576) (hby : ∀ x ∈ l0, 0 ≤ x ∧ x ≤ 255) (h : chooseF (decB l0) l0 = (r1, r2, r3)) :
    Calls Tryd.prog 70 #[.slice A0 l0.length c0] w fun e w' => ((r3 = 0 ∧ r1.length = 68 ∧ ∃ g, e = .returned (.tuple #[.pointer (some ⟨g, 0, none⟩), .nilIface]) ∧ w'.heap[g]? = some (.cells (volC A0 l0.length c0 r1 r2).toArray 124 (0, 0)) ∧ w.heap.size ≤ g) ∨ (r3 ≠ 0 ∧ r1 = List.replicate 68 0 ∧ r2 = 0 ∧ e = .returned (.tuple #[.pointer none, .iface 139 (.int .i64 r3)]))) ∧ Below w.heap.size w w' := by
  have HV := Aside0.mk hv
  have HR0 := Aside0.mk hr0
  have HC0 := Aside0.mk hc0
  have HBY : Aside0 (Byt l0) := ⟨hby⟩
  have HLM := Aside0.mk hl
  obtain ⟨nb, hnb⟩ : ∃ n, n = sizeN l0 := ⟨_, rfl⟩
  have EB := Aside0.mk (show impl_rightSize.f (l0.length : Int) = some (decide (nb ≠ 0)) by rw [hnb]; exact impl_rightSize.size l0 hl)
  have Z48 : ∀ w, (zeroValue 48).run Tryd.prog w = .ok (.agg (nums .i64 (List.replicate 68 0)).toArray) w := fun _ => by kernel_rfl
  have NZ := Aside0.mk (show (List.replicate 68 (0 : Int)).length = 68 by simp)
  have BU_ := Aside0.mk (show ∀ w, (Instr.build 124 #[(0, .slice A0 l0.length c0), (2, .int .i64 (-1))]).run Tryd.prog w = .ok (.agg (volC A0 l0.length c0 (List.replicate 68 0) (-1)).toArray) w from fun w => run_build w 124 _ _ (by kernel_rfl))
  unfold chooseF at h
  rw [← hnb] at h
  clear hv hr0 hc0 hby hl
  have HB0 : Aside0 (Below w.heap.size w w) := ⟨Below.refl _ _⟩
  obtain ⟨s0, Sz0⟩ : ∃ s0, Aside0 (w.heap.size = s0) := ⟨_, ⟨rfl⟩⟩
  have hw0 : w.heap.size ≤ s0 := Nat.le_of_eq Sz0.out
  have hw1 : s0 ≤ w.heap.size := Nat.le_of_eq Sz0.out.symm
  by_cases hz : nb = 0
  case pos =>
    rw [if_pos hz] at h
    simp only [Prod.mk.injEq] at h
    obtain ⟨rfl, rfl, rfl⟩ := h
    have e_ := EB.out
    rw [decide_eq_false (show ¬ nb ≠ 0 from fun h_ => h_ hz)] at e_
    clear EB
    have EB := Aside0.mk e_
    clear hz hnb e_
    go_enter Tryd.func70, Tryd.ntmps70
    go_wp2_with (first | ((with_reducible refine gate_dst (N := 10) rfl ?_); refine goesL_ (some 10) rfl rfl Tryd.func91 (by kernel_rfl) rfl #[.int .i64 (l0.length : Int)] rfl (by (try simp only [List.map_toArray, List.map_cons, List.map_nil]); first | done | rfl) ?_; refine (impl_rightSize.calls (l0.length : Int) false _ EB.out).mono ?_; rintro e_ w1 ⟨rfl, d_⟩; refine ⟨_, rfl, ?_⟩; have b_ := kept_drawn d_; have HB1 := Aside0.mk (below_then HB0.out HB0.out.size b_); obtain ⟨s1, L1, Sz1⟩ := size_letter Sz0 (kept_below b_); clear b_ d_ HB0))
    go_ret2
    first | exact ⟨.inr ⟨by decide, rfl, rfl, rfl⟩, HB1.out⟩ | exact ⟨rfl, HB1.out⟩ | exact ⟨.inr ⟨by decide, rfl⟩, HB1.out⟩ | (refine ⟨?_, HB1.out⟩; simp; done)
  rw [if_neg hz] at h
  have HSZ := Aside0.mk (show nb = ((l0.length / 512 : Nat) : Int) ∧ l0.length % 512 = 0 ∧ 64 ≤ l0.length / 512 ∧ l0.length / 512 ≤ 2048 by have h_ := sizeN_pos (l := l0) (by rw [← hnb]; exact hz); rw [← hnb] at h_; exact h_)
  have e_ := EB.out
  rw [decide_eq_true hz] at e_
  clear EB
  have EB := Aside0.mk e_
  have H := Aside0.mk h
  clear hz hnb h e_
  go_enter Tryd.func70, Tryd.ntmps70
  go_wp2_with (first | ((with_reducible refine gate_dst (N := 10) rfl ?_); refine goesL_ (some 10) rfl rfl Tryd.func91 (by kernel_rfl) rfl #[.int .i64 (l0.length : Int)] rfl (by (try simp only [List.map_toArray, List.map_cons, List.map_nil]); first | done | rfl) ?_; refine (impl_rightSize.calls (l0.length : Int) true _ EB.out).mono ?_; rintro e_ w1 ⟨rfl, d_⟩; refine ⟨_, rfl, ?_⟩; have b_ := kept_drawn d_; have HB1 := Aside0.mk (below_then HB0.out HB0.out.size b_); obtain ⟨s1, L1, Sz1⟩ := size_letter Sz0 (kept_below b_); clear b_ d_ HB0) | ((with_reducible refine gate_dst (N := 14) rfl ?_); refine hx_build rfl 124 _ rfl #[(0, .slice A0 l0.length c0), (2, .int .i64 (-1))] rfl (.agg (volC A0 l0.length c0 (List.replicate 68 0) (-1)).toArray) BU_.out ?_) | ((with_reducible refine gate_dst (N := 15) rfl ?_); refine hx_box rfl 15 rfl 124 (.tmp 14) rfl Sz1 (.agg (volC A0 l0.length c0 (List.replicate 68 0) (-1)).toArray) (volC A0 l0.length c0 (List.replicate 68 0) (-1)).toArray rfl (by simp [Value.cells]) ?_; intro w2 s2 L2 Sz2 b_ g_; have HG2 := Aside0.mk g_; have HB2 := Aside0.mk (below_then HB1.out HB1.out.size b_); clear g_ b_ HB1))
  (try simp only [Act.put, List.setIfInBounds_toArray, List.set_cons_succ, List.set_cons_zero])
  go_loopw [5, 6, 7, 16] (fun v5 v6 v7 v16 wr => ∃ (j : Nat) (L : List Int) (s : Int) (f : Bool) (a : Int) (u5 u6 u7 : Value), u5 = v5 ∧ u6 = v6 ∧ u7 = v7 ∧ v16 = .int .i64 (j : Int) ∧ Aside0 (j ≤ 2) ∧ Aside0 (L.length = 68) ∧ Aside0 (0 ≤ s) ∧ Aside0 (a = (impl_openVolume.at f s)) ∧ Aside0 (stN (decB l0) nb j = (L, s, f)) ∧ Aside0 (wr.heap[s1]? = some (.cells (volC A0 l0.length c0 L a).toArray 124 (0, 0))) ∧ Aside0 (Below w.heap.size w wr)) (fun _ _ _ v16 _ => 2 - (intOf v16).toNat)
  case atStart => exact ⟨0, (List.replicate 68 0), 0, false, -1, _, _, _, rfl, rfl, rfl, rfl, ⟨Nat.zero_le _⟩, NZ, ⟨Int.le_refl _⟩, ⟨rfl⟩, ⟨rfl⟩, HG2, HB2⟩
  case round =>
    clear HG2 HB2
    obtain ⟨j, L, s, f, a, v5, v6, v7, rfl, rfl, rfl, rfl, hj, HLL, HS0, HAT, HST, HG, HB⟩ := hrel
    by_cases c9 : j < 2
    · have c9b0 : decide ((j : Int) < 2) = true := decide_eq_true (by omega)
      have c9b1 : decide (j < 2) = true := decide_eq_true c9
      have C9 := Aside0.mk c9
      clear c9
      obtain ⟨r, kd, hd⟩ : ∃ r kd, decB l0 j = (r, kd) := ⟨_, _, rfl⟩
      have HD := Aside0.mk hd
      have NL := Aside0.mk (show r.length = 68 by have h_ : r = (decB l0 j).1 := (congrArg Prod.fst hd).symm; rw [h_]; exact decF_length (fsB_length _))
      have EF := Aside0.mk (show impl_DecodeFsinfo.f (blk l0 j) = some (r, kd) by rw [← hd]; exact if_pos (blk_byt HBY.out j))
      have HJB := Aside0.mk (show 512 * j + 512 ≤ l0.length by have := HSZ.out.2; have := C9.out; omega)
      obtain ⟨x0, hx0⟩ : ∃ x, x = r.getD 0 0 := ⟨_, rfl⟩
      obtain ⟨x1, hx1⟩ : ∃ x, x = r.getD 1 0 := ⟨_, rfl⟩
      obtain ⟨y0, hy0⟩ : ∃ x, x = L.getD 0 0 := ⟨_, rfl⟩
      have X0 := Aside0.mk hx0
      have X1 := Aside0.mk hx1
      have Y0 := Aside0.mk hy0
      clear hd hx0 hx1 hy0
      have HQ_ : Int.tdiv (l0.length : Int) 512 = nb := HSZ.out.1.symm
      have HQ2_ : (l0.length : Int) / 512 = nb := by rw [HSZ.out.1]; rfl
      have hn0_ : wrap64 nb = nb := by have := HSZ.out; unfold wrap64; omega
      by_cases ce : kd = 0
      case neg =>
        have e0 : (kd == 0) = false := beq_eq_false_iff_ne.mpr ce
        have CE := Aside0.mk ce
        clear ce
        go_wp2_with (first | ((with_reducible refine gate_dst (N := 22) rfl ?_); refine goesL_ (some 22) rfl rfl Tryd.func92 (by kernel_rfl) rfl #[.slice A0 l0.length c0, .int .i64 (j : Int)] rfl (by (try simp only [List.map_toArray, List.map_cons, List.map_nil]); first | done | rfl) ?_; refine (impl_blockOf.calls A0 c0 l0 j _ (Kd.C_below HR0.out HB.out) HC0.out HJB.out HLM.out).mono ?_; rintro e_ w5 ⟨⟨A5, c5, rfl, hr5, hc5⟩, b_⟩; refine ⟨_, rfl, ?_⟩; have R5 := Aside0.mk hr5; have C5 := Aside0.mk hc5; clear hr5 hc5; have HG_5 := Aside0.mk (blk_below HG.out b_); have HB_5 := Aside0.mk (below_then HB.out HB.out.size b_); clear b_ HG HB) | ((with_reducible refine gate_dst (N := 23) rfl ?_); refine goesL_ (some 23) rfl rfl Tryd.func24 (by kernel_rfl) rfl #[.slice A5 (blk l0 j).length c5] rfl (by (try simp only [List.map_toArray, List.map_cons, List.map_nil]); first | done | rfl) ?_; refine (impl_DecodeFsinfo.calls A5 c5 (blk l0 j) r kd _ (Kd.C_below HV.out HB_5.out) R5.out C5.out EF.out).mono ?_; rintro e_ w6 ⟨rfl, b_⟩; refine ⟨_, rfl, ?_⟩; have HG_6 := Aside0.mk (blk_below HG_5.out b_); have HB_6 := Aside0.mk (below_then HB_5.out HB_5.out.size b_); have hz2_ := blk_lt HG_6.out; obtain ⟨s6, S6⟩ : ∃ s, Aside0 (w6.heap.size = s) := ⟨_, ⟨rfl⟩⟩; rw [S6.out] at hz2_; clear b_ HG_5 HB_5) | ((with_reducible refine gate_dst (N := 6) rfl ?_); refine hx_alloc rfl 6 rfl 48 rfl S6 (.agg (nums .i64 (List.replicate 68 0)).toArray) (nums .i64 (List.replicate 68 0)).toArray Z48 rfl ?_; intro w7 s7 Ls7 Ss7 b_ g_; have HX := Aside0.mk g_; have HB_7 := Aside0.mk (below_then HB_6.out HB_6.out.size b_); have HG_7 := Aside0.mk (blk_below HG_6.out b_); clear b_ g_ HB_6 HG_6) | ((with_reducible refine gate_store (t := 48) (p := 6) (v := .tmp 24) rfl ?_); refine hx_store rfl rfl 48 (.tmp 6) (.tmp 24) rfl s6 68 rfl (nums .i64 r).toArray rfl (by kernel_rfl) (nums_size _ _ _ NL.out) (nums_one _ _) HX.out (by simp [nums]) ?_; intro w8 t_ gg_; have HX_8 := Aside0.mk gg_; have HG_8 := Aside0.mk (t_.keep (show s1 ≠ s6 by omega) HG_7.out); have HB_8 := Aside0.mk (t_.below HB_7.out (by omega)); clear t_ gg_ HX HB_7 HG_7; have f1_ : w8.cell? ⟨s6, 1, none⟩ = some (.int .i64 x1) := (by rw [X1.out]; exact (blk_cell HX_8.out 1).trans (by simp [nums, NL.out])); have f2_ : w8.cell? ⟨s6, 0, none⟩ = some (.int .i64 x0) := (by rw [X0.out]; exact (blk_cell HX_8.out 0).trans (by simp [nums, NL.out])); have f3_ : w8.cell? ⟨s1, 69, none⟩ = some (.int .i64 a) := (blk_cell HG_8.out 69).trans (volC_at HLL.out); have f4_ : w8.cell? ⟨s1, 1, none⟩ = some (.int .i64 y0) := (by rw [Y0.out]; exact (blk_cell HG_8.out (1 + 0)).trans (volC_rec HLL.out 0 (by decide)))))
        go_quiet (fail)
        clear f1_ f2_ f3_ f4_
        go_wp2_with (first | fail)
        go_roundw
        case rel => exact ⟨j + 1, L, s, _, a, _, _, _, rfl, rfl, rfl, by first | rw [show wrap64 ((j : Int) + 1) = ((j + 1 : Nat) : Int) by (have := C9.out; unfold wrap64; omega)] | (simp; done), ⟨by have := C9.out; omega⟩, HLL, HS0, HAT, ⟨stN_skip HST.out HD.out (fun h_ => by have h1_ := CE.out; have h2_ := h_.1.1; omega)⟩, ⟨blk_drewN HG_8.out _⟩, ⟨pw_below_drewN HB_8.out _⟩⟩
        case measure =>
          (try rw [show wrap64 ((j : Int) + 1) = ((j + 1 : Nat) : Int) by (have := C9.out; unfold wrap64; omega)])
          simp only [intOf]
          have := C9.out
          omega
      have e0 : (kd == 0) = true := beq_iff_eq.mpr ce
      have CE := Aside0.mk ce
      clear ce
      by_cases cn : x1 = nb
      case neg =>
        have e1 : (x1 == nb) = false := beq_eq_false_iff_ne.mpr cn
        have CN := Aside0.mk cn
        clear cn
        go_wp2_with (first | ((with_reducible refine gate_dst (N := 22) rfl ?_); refine goesL_ (some 22) rfl rfl Tryd.func92 (by kernel_rfl) rfl #[.slice A0 l0.length c0, .int .i64 (j : Int)] rfl (by (try simp only [List.map_toArray, List.map_cons, List.map_nil]); first | done | rfl) ?_; refine (impl_blockOf.calls A0 c0 l0 j _ (Kd.C_below HR0.out HB.out) HC0.out HJB.out HLM.out).mono ?_; rintro e_ w5 ⟨⟨A5, c5, rfl, hr5, hc5⟩, b_⟩; refine ⟨_, rfl, ?_⟩; have R5 := Aside0.mk hr5; have C5 := Aside0.mk hc5; clear hr5 hc5; have HG_5 := Aside0.mk (blk_below HG.out b_); have HB_5 := Aside0.mk (below_then HB.out HB.out.size b_); clear b_ HG HB) | ((with_reducible refine gate_dst (N := 23) rfl ?_); refine goesL_ (some 23) rfl rfl Tryd.func24 (by kernel_rfl) rfl #[.slice A5 (blk l0 j).length c5] rfl (by (try simp only [List.map_toArray, List.map_cons, List.map_nil]); first | done | rfl) ?_; refine (impl_DecodeFsinfo.calls A5 c5 (blk l0 j) r kd _ (Kd.C_below HV.out HB_5.out) R5.out C5.out EF.out).mono ?_; rintro e_ w6 ⟨rfl, b_⟩; refine ⟨_, rfl, ?_⟩; have HG_6 := Aside0.mk (blk_below HG_5.out b_); have HB_6 := Aside0.mk (below_then HB_5.out HB_5.out.size b_); have hz2_ := blk_lt HG_6.out; obtain ⟨s6, S6⟩ : ∃ s, Aside0 (w6.heap.size = s) := ⟨_, ⟨rfl⟩⟩; rw [S6.out] at hz2_; clear b_ HG_5 HB_5) | ((with_reducible refine gate_dst (N := 6) rfl ?_); refine hx_alloc rfl 6 rfl 48 rfl S6 (.agg (nums .i64 (List.replicate 68 0)).toArray) (nums .i64 (List.replicate 68 0)).toArray Z48 rfl ?_; intro w7 s7 Ls7 Ss7 b_ g_; have HX := Aside0.mk g_; have HB_7 := Aside0.mk (below_then HB_6.out HB_6.out.size b_); have HG_7 := Aside0.mk (blk_below HG_6.out b_); clear b_ g_ HB_6 HG_6) | ((with_reducible refine gate_store (t := 48) (p := 6) (v := .tmp 24) rfl ?_); refine hx_store rfl rfl 48 (.tmp 6) (.tmp 24) rfl s6 68 rfl (nums .i64 r).toArray rfl (by kernel_rfl) (nums_size _ _ _ NL.out) (nums_one _ _) HX.out (by simp [nums]) ?_; intro w8 t_ gg_; have HX_8 := Aside0.mk gg_; have HG_8 := Aside0.mk (t_.keep (show s1 ≠ s6 by omega) HG_7.out); have HB_8 := Aside0.mk (t_.below HB_7.out (by omega)); clear t_ gg_ HX HB_7 HG_7; have f1_ : w8.cell? ⟨s6, 1, none⟩ = some (.int .i64 x1) := (by rw [X1.out]; exact (blk_cell HX_8.out 1).trans (by simp [nums, NL.out])); have f2_ : w8.cell? ⟨s6, 0, none⟩ = some (.int .i64 x0) := (by rw [X0.out]; exact (blk_cell HX_8.out 0).trans (by simp [nums, NL.out])); have f3_ : w8.cell? ⟨s1, 69, none⟩ = some (.int .i64 a) := (blk_cell HG_8.out 69).trans (volC_at HLL.out); have f4_ : w8.cell? ⟨s1, 1, none⟩ = some (.int .i64 y0) := (by rw [Y0.out]; exact (blk_cell HG_8.out (1 + 0)).trans (volC_rec HLL.out 0 (by decide)))))
        go_quiet (fail)
        clear f1_ f2_ f3_ f4_
        go_wp2_with (first | fail)
        go_roundw
        case rel => exact ⟨j + 1, L, s, _, a, _, _, _, rfl, rfl, rfl, by first | rw [show wrap64 ((j : Int) + 1) = ((j + 1 : Nat) : Int) by (have := C9.out; unfold wrap64; omega)] | (simp; done), ⟨by have := C9.out; omega⟩, HLL, HS0, HAT, ⟨stN_skip HST.out HD.out (fun h_ => by have h1_ := CN.out; have h2_ := X1.out; have h3_ := h_.1.2; omega)⟩, ⟨blk_drewN HG_8.out _⟩, ⟨pw_below_drewN HB_8.out _⟩⟩
        case measure =>
          (try rw [show wrap64 ((j : Int) + 1) = ((j + 1 : Nat) : Int) by (have := C9.out; unfold wrap64; omega)])
          simp only [intOf]
          have := C9.out
          omega
      have e1 : (x1 == nb) = true := beq_iff_eq.mpr cn
      have CN := Aside0.mk cn
      clear cn
      cases f
      case false =>
        have e3 : decide (a < 0) = true := decide_eq_true (by have h1_ : a = -1 := HAT.out; omega)
        go_wp2_with (first | ((with_reducible refine gate_dst (N := 22) rfl ?_); refine goesL_ (some 22) rfl rfl Tryd.func92 (by kernel_rfl) rfl #[.slice A0 l0.length c0, .int .i64 (j : Int)] rfl (by (try simp only [List.map_toArray, List.map_cons, List.map_nil]); first | done | rfl) ?_; refine (impl_blockOf.calls A0 c0 l0 j _ (Kd.C_below HR0.out HB.out) HC0.out HJB.out HLM.out).mono ?_; rintro e_ w5 ⟨⟨A5, c5, rfl, hr5, hc5⟩, b_⟩; refine ⟨_, rfl, ?_⟩; have R5 := Aside0.mk hr5; have C5 := Aside0.mk hc5; clear hr5 hc5; have HG_5 := Aside0.mk (blk_below HG.out b_); have HB_5 := Aside0.mk (below_then HB.out HB.out.size b_); clear b_ HG HB) | ((with_reducible refine gate_dst (N := 23) rfl ?_); refine goesL_ (some 23) rfl rfl Tryd.func24 (by kernel_rfl) rfl #[.slice A5 (blk l0 j).length c5] rfl (by (try simp only [List.map_toArray, List.map_cons, List.map_nil]); first | done | rfl) ?_; refine (impl_DecodeFsinfo.calls A5 c5 (blk l0 j) r kd _ (Kd.C_below HV.out HB_5.out) R5.out C5.out EF.out).mono ?_; rintro e_ w6 ⟨rfl, b_⟩; refine ⟨_, rfl, ?_⟩; have HG_6 := Aside0.mk (blk_below HG_5.out b_); have HB_6 := Aside0.mk (below_then HB_5.out HB_5.out.size b_); have hz2_ := blk_lt HG_6.out; obtain ⟨s6, S6⟩ : ∃ s, Aside0 (w6.heap.size = s) := ⟨_, ⟨rfl⟩⟩; rw [S6.out] at hz2_; clear b_ HG_5 HB_5) | ((with_reducible refine gate_dst (N := 6) rfl ?_); refine hx_alloc rfl 6 rfl 48 rfl S6 (.agg (nums .i64 (List.replicate 68 0)).toArray) (nums .i64 (List.replicate 68 0)).toArray Z48 rfl ?_; intro w7 s7 Ls7 Ss7 b_ g_; have HX := Aside0.mk g_; have HB_7 := Aside0.mk (below_then HB_6.out HB_6.out.size b_); have HG_7 := Aside0.mk (blk_below HG_6.out b_); clear b_ g_ HB_6 HG_6) | ((with_reducible refine gate_store (t := 48) (p := 6) (v := .tmp 24) rfl ?_); refine hx_store rfl rfl 48 (.tmp 6) (.tmp 24) rfl s6 68 rfl (nums .i64 r).toArray rfl (by kernel_rfl) (nums_size _ _ _ NL.out) (nums_one _ _) HX.out (by simp [nums]) ?_; intro w8 t_ gg_; have HX_8 := Aside0.mk gg_; have HG_8 := Aside0.mk (t_.keep (show s1 ≠ s6 by omega) HG_7.out); have HB_8 := Aside0.mk (t_.below HB_7.out (by omega)); clear t_ gg_ HX HB_7 HG_7; have f1_ : w8.cell? ⟨s6, 1, none⟩ = some (.int .i64 x1) := (by rw [X1.out]; exact (blk_cell HX_8.out 1).trans (by simp [nums, NL.out])); have f2_ : w8.cell? ⟨s6, 0, none⟩ = some (.int .i64 x0) := (by rw [X0.out]; exact (blk_cell HX_8.out 0).trans (by simp [nums, NL.out])); have f3_ : w8.cell? ⟨s1, 69, none⟩ = some (.int .i64 a) := (blk_cell HG_8.out 69).trans (volC_at HLL.out); have f4_ : w8.cell? ⟨s1, 1, none⟩ = some (.int .i64 y0) := (by rw [Y0.out]; exact (blk_cell HG_8.out (1 + 0)).trans (volC_rec HLL.out 0 (by decide)))))
        go_quiet (fail)
        clear f1_ f2_ f3_ f4_
        go_wp2_with (first | ((with_reducible refine gate_dst (N := 55) rfl ?_); refine hx_load rfl 48 (.tmp 6) rfl s6 68 rfl Tryd.underlying48 rfl (by kernel_rfl) (blk_drewN HX_8.out _) (nums_size _ _ _ NL.out) ?_) | ((with_reducible refine gate_store (t := 48) (p := 58) (v := .tmp 55) rfl ?_); refine wpList_st rfl rfl 48 (.tmp 58) (.tmp 55) rfl s1 1 rfl (.agg (nums .i64 r).toArray) rfl (nums .i64 r) (volC A0 l0.length c0 r a).toArray (by simp [Value.cells]) (by rw [show (nums .i64 r).length = 68 by simp [nums, NL.out]]; kernel_rfl) (by simpa using nums_one .i64 r) (blk_drewN HG_8.out _) (by rw [volC_size HLL.out]; simp [nums, NL.out]) (volC_setr HLL.out NL.out) ?_; intro w9 t_ g_; have HG_9 := Aside0.mk g_; have HB_9 := Aside0.mk (t_.below (pw_below_drewN HB_8.out _) (by omega)); clear t_ g_) | ((with_reducible refine gate_store (t := 3) (p := 60) (v := .tmp 56) rfl ?_); refine wpList_st rfl rfl 3 (.tmp 60) (.tmp 56) rfl s1 69 rfl (.int .i64 (j : Int)) rfl [.int .i64 (j : Int)] (volC A0 l0.length c0 r (j : Int)).toArray rfl (by kernel_rfl) rfl HG_9.out (by rw [volC_size NL.out]; simp) (volC_seta NL.out) ?_; intro w10 t_ g_; have HG_10 := Aside0.mk g_; have HB_10 := Aside0.mk (t_.below HB_9.out (by omega)); clear t_ g_))
        go_roundw
        case rel => exact ⟨j + 1, r, (j : Int), true, (j : Int), _, _, _, rfl, rfl, rfl, by first | rw [show wrap64 ((j : Int) + 1) = ((j + 1 : Nat) : Int) by (have := C9.out; unfold wrap64; omega)] | (simp; done), ⟨by have := C9.out; omega⟩, NL, ⟨by omega⟩, ⟨rfl⟩, ⟨stN_use HST.out HD.out ⟨⟨CE.out, X1.out.symm.trans CN.out⟩, .inl rfl⟩⟩, HG_10, HB_10⟩
        case measure =>
          (try rw [show wrap64 ((j : Int) + 1) = ((j + 1 : Nat) : Int) by (have := C9.out; unfold wrap64; omega)])
          simp only [intOf]
          have := C9.out
          omega
      by_cases cg : y0 < x0
      case neg =>
        have e2 : decide (y0 < x0) = false := decide_eq_false cg
        have CG := Aside0.mk cg
        clear cg
        have e3 : decide (a < 0) = false := decide_eq_false (by have h1_ : a = s := HAT.out; have := HS0.out; omega)
        go_wp2_with (first | ((with_reducible refine gate_dst (N := 22) rfl ?_); refine goesL_ (some 22) rfl rfl Tryd.func92 (by kernel_rfl) rfl #[.slice A0 l0.length c0, .int .i64 (j : Int)] rfl (by (try simp only [List.map_toArray, List.map_cons, List.map_nil]); first | done | rfl) ?_; refine (impl_blockOf.calls A0 c0 l0 j _ (Kd.C_below HR0.out HB.out) HC0.out HJB.out HLM.out).mono ?_; rintro e_ w5 ⟨⟨A5, c5, rfl, hr5, hc5⟩, b_⟩; refine ⟨_, rfl, ?_⟩; have R5 := Aside0.mk hr5; have C5 := Aside0.mk hc5; clear hr5 hc5; have HG_5 := Aside0.mk (blk_below HG.out b_); have HB_5 := Aside0.mk (below_then HB.out HB.out.size b_); clear b_ HG HB) | ((with_reducible refine gate_dst (N := 23) rfl ?_); refine goesL_ (some 23) rfl rfl Tryd.func24 (by kernel_rfl) rfl #[.slice A5 (blk l0 j).length c5] rfl (by (try simp only [List.map_toArray, List.map_cons, List.map_nil]); first | done | rfl) ?_; refine (impl_DecodeFsinfo.calls A5 c5 (blk l0 j) r kd _ (Kd.C_below HV.out HB_5.out) R5.out C5.out EF.out).mono ?_; rintro e_ w6 ⟨rfl, b_⟩; refine ⟨_, rfl, ?_⟩; have HG_6 := Aside0.mk (blk_below HG_5.out b_); have HB_6 := Aside0.mk (below_then HB_5.out HB_5.out.size b_); have hz2_ := blk_lt HG_6.out; obtain ⟨s6, S6⟩ : ∃ s, Aside0 (w6.heap.size = s) := ⟨_, ⟨rfl⟩⟩; rw [S6.out] at hz2_; clear b_ HG_5 HB_5) | ((with_reducible refine gate_dst (N := 6) rfl ?_); refine hx_alloc rfl 6 rfl 48 rfl S6 (.agg (nums .i64 (List.replicate 68 0)).toArray) (nums .i64 (List.replicate 68 0)).toArray Z48 rfl ?_; intro w7 s7 Ls7 Ss7 b_ g_; have HX := Aside0.mk g_; have HB_7 := Aside0.mk (below_then HB_6.out HB_6.out.size b_); have HG_7 := Aside0.mk (blk_below HG_6.out b_); clear b_ g_ HB_6 HG_6) | ((with_reducible refine gate_store (t := 48) (p := 6) (v := .tmp 24) rfl ?_); refine hx_store rfl rfl 48 (.tmp 6) (.tmp 24) rfl s6 68 rfl (nums .i64 r).toArray rfl (by kernel_rfl) (nums_size _ _ _ NL.out) (nums_one _ _) HX.out (by simp [nums]) ?_; intro w8 t_ gg_; have HX_8 := Aside0.mk gg_; have HG_8 := Aside0.mk (t_.keep (show s1 ≠ s6 by omega) HG_7.out); have HB_8 := Aside0.mk (t_.below HB_7.out (by omega)); clear t_ gg_ HX HB_7 HG_7; have f1_ : w8.cell? ⟨s6, 1, none⟩ = some (.int .i64 x1) := (by rw [X1.out]; exact (blk_cell HX_8.out 1).trans (by simp [nums, NL.out])); have f2_ : w8.cell? ⟨s6, 0, none⟩ = some (.int .i64 x0) := (by rw [X0.out]; exact (blk_cell HX_8.out 0).trans (by simp [nums, NL.out])); have f3_ : w8.cell? ⟨s1, 69, none⟩ = some (.int .i64 a) := (blk_cell HG_8.out 69).trans (volC_at HLL.out); have f4_ : w8.cell? ⟨s1, 1, none⟩ = some (.int .i64 y0) := (by rw [Y0.out]; exact (blk_cell HG_8.out (1 + 0)).trans (volC_rec HLL.out 0 (by decide)))))
        go_quiet (fail)
        clear f1_ f2_ f3_ f4_
        go_wp2_with (first | fail)
        go_roundw
        case rel => exact ⟨j + 1, L, s, _, a, _, _, _, rfl, rfl, rfl, by first | rw [show wrap64 ((j : Int) + 1) = ((j + 1 : Nat) : Int) by (have := C9.out; unfold wrap64; omega)] | (simp; done), ⟨by have := C9.out; omega⟩, HLL, HS0, HAT, ⟨stN_skip HST.out HD.out (fun h_ => h_.2.elim (fun h2_ => Bool.noConfusion h2_) (fun h2_ => by rw [← Y0.out, ← X0.out] at h2_; have h3_ := CG.out; omega))⟩, ⟨blk_drewN HG_8.out _⟩, ⟨pw_below_drewN HB_8.out _⟩⟩
        case measure =>
          (try rw [show wrap64 ((j : Int) + 1) = ((j + 1 : Nat) : Int) by (have := C9.out; unfold wrap64; omega)])
          simp only [intOf]
          have := C9.out
          omega
      have e2 : decide (y0 < x0) = true := decide_eq_true cg
      have CG := Aside0.mk cg
      clear cg
      have e3 : decide (a < 0) = false := decide_eq_false (by have h1_ : a = s := HAT.out; have := HS0.out; omega)
      go_wp2_with (first | ((with_reducible refine gate_dst (N := 22) rfl ?_); refine goesL_ (some 22) rfl rfl Tryd.func92 (by kernel_rfl) rfl #[.slice A0 l0.length c0, .int .i64 (j : Int)] rfl (by (try simp only [List.map_toArray, List.map_cons, List.map_nil]); first | done | rfl) ?_; refine (impl_blockOf.calls A0 c0 l0 j _ (Kd.C_below HR0.out HB.out) HC0.out HJB.out HLM.out).mono ?_; rintro e_ w5 ⟨⟨A5, c5, rfl, hr5, hc5⟩, b_⟩; refine ⟨_, rfl, ?_⟩; have R5 := Aside0.mk hr5; have C5 := Aside0.mk hc5; clear hr5 hc5; have HG_5 := Aside0.mk (blk_below HG.out b_); have HB_5 := Aside0.mk (below_then HB.out HB.out.size b_); clear b_ HG HB) | ((with_reducible refine gate_dst (N := 23) rfl ?_); refine goesL_ (some 23) rfl rfl Tryd.func24 (by kernel_rfl) rfl #[.slice A5 (blk l0 j).length c5] rfl (by (try simp only [List.map_toArray, List.map_cons, List.map_nil]); first | done | rfl) ?_; refine (impl_DecodeFsinfo.calls A5 c5 (blk l0 j) r kd _ (Kd.C_below HV.out HB_5.out) R5.out C5.out EF.out).mono ?_; rintro e_ w6 ⟨rfl, b_⟩; refine ⟨_, rfl, ?_⟩; have HG_6 := Aside0.mk (blk_below HG_5.out b_); have HB_6 := Aside0.mk (below_then HB_5.out HB_5.out.size b_); have hz2_ := blk_lt HG_6.out; obtain ⟨s6, S6⟩ : ∃ s, Aside0 (w6.heap.size = s) := ⟨_, ⟨rfl⟩⟩; rw [S6.out] at hz2_; clear b_ HG_5 HB_5) | ((with_reducible refine gate_dst (N := 6) rfl ?_); refine hx_alloc rfl 6 rfl 48 rfl S6 (.agg (nums .i64 (List.replicate 68 0)).toArray) (nums .i64 (List.replicate 68 0)).toArray Z48 rfl ?_; intro w7 s7 Ls7 Ss7 b_ g_; have HX := Aside0.mk g_; have HB_7 := Aside0.mk (below_then HB_6.out HB_6.out.size b_); have HG_7 := Aside0.mk (blk_below HG_6.out b_); clear b_ g_ HB_6 HG_6) | ((with_reducible refine gate_store (t := 48) (p := 6) (v := .tmp 24) rfl ?_); refine hx_store rfl rfl 48 (.tmp 6) (.tmp 24) rfl s6 68 rfl (nums .i64 r).toArray rfl (by kernel_rfl) (nums_size _ _ _ NL.out) (nums_one _ _) HX.out (by simp [nums]) ?_; intro w8 t_ gg_; have HX_8 := Aside0.mk gg_; have HG_8 := Aside0.mk (t_.keep (show s1 ≠ s6 by omega) HG_7.out); have HB_8 := Aside0.mk (t_.below HB_7.out (by omega)); clear t_ gg_ HX HB_7 HG_7; have f1_ : w8.cell? ⟨s6, 1, none⟩ = some (.int .i64 x1) := (by rw [X1.out]; exact (blk_cell HX_8.out 1).trans (by simp [nums, NL.out])); have f2_ : w8.cell? ⟨s6, 0, none⟩ = some (.int .i64 x0) := (by rw [X0.out]; exact (blk_cell HX_8.out 0).trans (by simp [nums, NL.out])); have f3_ : w8.cell? ⟨s1, 69, none⟩ = some (.int .i64 a) := (blk_cell HG_8.out 69).trans (volC_at HLL.out); have f4_ : w8.cell? ⟨s1, 1, none⟩ = some (.int .i64 y0) := (by rw [Y0.out]; exact (blk_cell HG_8.out (1 + 0)).trans (volC_rec HLL.out 0 (by decide)))))
      go_quiet (fail)
      clear f1_ f2_ f3_ f4_
      go_wp2_with (first | ((with_reducible refine gate_dst (N := 55) rfl ?_); refine hx_load rfl 48 (.tmp 6) rfl s6 68 rfl Tryd.underlying48 rfl (by kernel_rfl) (blk_drewN HX_8.out _) (nums_size _ _ _ NL.out) ?_) | ((with_reducible refine gate_store (t := 48) (p := 58) (v := .tmp 55) rfl ?_); refine wpList_st rfl rfl 48 (.tmp 58) (.tmp 55) rfl s1 1 rfl (.agg (nums .i64 r).toArray) rfl (nums .i64 r) (volC A0 l0.length c0 r a).toArray (by simp [Value.cells]) (by rw [show (nums .i64 r).length = 68 by simp [nums, NL.out]]; kernel_rfl) (by simpa using nums_one .i64 r) (blk_drewN HG_8.out _) (by rw [volC_size HLL.out]; simp [nums, NL.out]) (volC_setr HLL.out NL.out) ?_; intro w9 t_ g_; have HG_9 := Aside0.mk g_; have HB_9 := Aside0.mk (t_.below (pw_below_drewN HB_8.out _) (by omega)); clear t_ g_) | ((with_reducible refine gate_store (t := 3) (p := 60) (v := .tmp 56) rfl ?_); refine wpList_st rfl rfl 3 (.tmp 60) (.tmp 56) rfl s1 69 rfl (.int .i64 (j : Int)) rfl [.int .i64 (j : Int)] (volC A0 l0.length c0 r (j : Int)).toArray rfl (by kernel_rfl) rfl HG_9.out (by rw [volC_size NL.out]; simp) (volC_seta NL.out) ?_; intro w10 t_ g_; have HG_10 := Aside0.mk g_; have HB_10 := Aside0.mk (t_.below HB_9.out (by omega)); clear t_ g_))
      go_roundw
      case rel => exact ⟨j + 1, r, (j : Int), true, (j : Int), _, _, _, rfl, rfl, rfl, by first | rw [show wrap64 ((j : Int) + 1) = ((j + 1 : Nat) : Int) by (have := C9.out; unfold wrap64; omega)] | (simp; done), ⟨by have := C9.out; omega⟩, NL, ⟨by omega⟩, ⟨rfl⟩, ⟨stN_use HST.out HD.out ⟨⟨CE.out, X1.out.symm.trans CN.out⟩, .inr (by rw [← Y0.out, ← X0.out]; exact CG.out)⟩⟩, HG_10, HB_10⟩
      case measure =>
        (try rw [show wrap64 ((j : Int) + 1) = ((j + 1 : Nat) : Int) by (have := C9.out; unfold wrap64; omega)])
        simp only [intOf]
        have := C9.out
        omega
    · obtain rfl : j = 2 := by have := hj.out; omega
      have c9b0 : decide ((2 : Int) < 2) = false := by decide
      have h := H.out
      rw [HST.out] at h
      have f3_ : wr.cell? ⟨s1, 69, none⟩ = some (.int .i64 a) := (blk_cell HG.out 69).trans (volC_at HLL.out)
      clear c9 H
      cases f
      case false =>
        simp only [chosen, Bool.false_eq_true, if_false, Prod.mk.injEq] at h
        obtain ⟨rfl, rfl, rfl⟩ := h
        have e3 : decide (a < 0) = true := decide_eq_true (by have h1_ : a = -1 := HAT.out; omega)
        go_wp2
        go_ret2
        first | exact ⟨.inr ⟨by decide, rfl, rfl, rfl⟩, HB.out⟩ | exact ⟨rfl, HB.out⟩
      simp only [chosen, if_true, Prod.mk.injEq] at h
      obtain ⟨rfl, rfl, rfl⟩ := h
      have e4 : a = s := HAT.out
      have e3 : decide (a < 0) = false := decide_eq_false (by rw [e4]; have := HS0.out; omega)
      subst e4
      go_wp2
      go_ret2
      first | exact ⟨.inl ⟨rfl, HLL.out, _, rfl, HG.out, by omega⟩, HB.out⟩ | exact ⟨⟨HLL.out, _, rfl, HG.out, by omega⟩, HB.out⟩

-- NOT PRINTED: function 97 (reflectlite_ValueOf)

-- NOT PRINTED: function 98 (reflectlite_Value_Type)

-- NOT PRINTED: function 99 (reflectlite_Value_IsNil)

-- NOT PRINTED: function 101 (reflectlite_TypeOf)

-- NOT PRINTED: function 102 (reflectlite_Value_Elem)

-- NOT PRINTED: function 103 (reflectlite_Value_Set)

-- NOT PRINTED: function 100 (errors_as)

-- NOT PRINTED: function 93 (errors_As)

open Go.Proofs.YtkghgjehjchajaaDoorW Go.Proofs.YtkghgjehjchajaaDoorW.PrintHand Go.Proofs.YtkghgjehjchajaaDoorW.PrintHx
/-! ### impl_codeOf: function 71 -/
section
open Go.Extern.Stop Go.Stop Go.Extern
theorem ea_nil (t : Value) (w : World) :
    Calls Tryd.prog 93 #[.nilIface, t] w fun e w' => e = .returned (.bool false) ∧ w' = w := by
  go_enter Tryd.func93, Tryd.ntmps93
  go_wp2
  go_ret
  exact ⟨rfl, rfl⟩

theorem ea_valueOf27 (t : Addr) (w : World) : (ReflectliteValue.unpack (.iface 141 (.pointer (some t)))).run Tryd.prog w
    = .ok (.agg #[.pointer (some ⟨3, 141, none⟩), .pointer (some ⟨w.heap.size, 0, none⟩), .int .u64 150]) (w.alloc (.cells #[.pointer (some t)] 141)) := by kernel_rfl
theorem ea_type27 (a : Addr) (w : World) : (ReflectliteValue.methodAny (ReflectliteValue.valueError "reflectlite.Value.Type" 0) (fun t _ _ _ => ReflectliteType.toType t) #[.agg #[.pointer (some ⟨3, 141, none⟩), .pointer (some a), .int .u64 150]]).run Tryd.prog w
    = .ok (.iface 158 (.agg #[.pointer (some ⟨3, 141, none⟩)])) w := by kernel_rfl
theorem ea_methodKind (h : Value) (w : World) : (Go.method 306 158 (.agg #[h]) "Kind").run Tryd.prog w = .ok (118, h) w := by kernel_rfl
theorem ea_kind27 (w : World) : ((ReflectliteType.abiMethod fun t => (fun a : Nat => Value.int IntKind.u8 (a : Int)) <$> Rtype.kind t) #[.pointer (some ⟨3, 141, none⟩)]).run Tryd.prog w = .ok (.int .u8 22) w := by kernel_rfl
theorem ea_kind25 (w : World) : ((ReflectliteType.abiMethod fun t => (fun a : Nat => Value.int IntKind.u8 (a : Int)) <$> Rtype.kind t) #[.pointer (some ⟨3, 139, none⟩)]).run Tryd.prog w = .ok (.int .u8 2) w := by kernel_rfl

theorem ea_rlm (z : Sem Value) (f : TypeId → Addr → Nat → Nat → Sem Value) (v : Value) :
    ReflectliteValue.method z f #[v] = (do match ← ReflectliteValue.parts v with | none => z | some (t, a, fl) => f t a fl (fl % 32)) := rfl
theorem ea_parts27 (a : Addr) (w : World) : (ReflectliteValue.parts (.agg #[.pointer (some ⟨3, 141, none⟩), .pointer (some a), .int .u64 150])).run Tryd.prog w = .ok (some (141, a, 150)) w := by kernel_rfl
theorem ea_isNil27 (a p : Addr) (W : World) (ha : W.cell? a = some (.pointer (some p))) :
    (ReflectliteValue.method (ReflectliteValue.valueError "reflectlite.Value.IsNil" 0) ReflectliteValue.isNil #[.agg #[.pointer (some ⟨3, 141, none⟩), .pointer (some a), .int .u64 150]]).run Tryd.prog W = .ok (.bool false) W := by
  rw [ea_rlm]
  simp only [Sem.run_bind, ea_parts27, Result.andThen]
  simp [ReflectliteValue.isNil, loadVar, isAgg, underlying, Tryd.underlying141, ha, Result.andThen]

theorem ea_methodElem (h : Value) (w : World) : (Go.method 306 158 (.agg #[h]) "Elem").run Tryd.prog w = .ok (129, .agg #[h]) w := by kernel_rfl
theorem ea_methodImplements (h : Value) (w : World) : (Go.method 306 158 (.agg #[h]) "Implements").run Tryd.prog w = .ok (130, .agg #[h]) w := by kernel_rfl
theorem ea_methodAssignableTo (h : Value) (w : World) : (Go.method 306 158 (.agg #[h]) "AssignableTo").run Tryd.prog w = .ok (127, .agg #[h]) w := by kernel_rfl
theorem ea_elem27 (w : World) : (ReflectliteType.method ReflectliteType.elem #[.agg #[.pointer (some ⟨3, 141, none⟩)]]).run Tryd.prog w = .ok (.iface 158 (.agg #[.pointer (some ⟨3, 139, none⟩)])) w := by kernel_rfl
theorem ea_implements25 (w : World) : (ReflectliteType.relation "Implements" ReflectliteType.implements_ #[.agg #[.pointer (some ⟨3, 139, none⟩)], .iface 158 (.agg #[.pointer (some ⟨3, 106, none⟩)])]).run Tryd.prog w = .ok (.bool true) w := by kernel_rfl
theorem ea_typeOf25 (v : Value) (w : World) : (ReflectliteType.typeOf #[.iface 139 v]).run Tryd.prog w = .ok (.iface 158 (.agg #[.pointer (some ⟨3, 139, none⟩)])) w := by kernel_rfl
theorem ea_assignable25 (w : World) : (ReflectliteType.relation "AssignableTo" ReflectliteType.assignableTo #[.agg #[.pointer (some ⟨3, 139, none⟩)], .iface 158 (.agg #[.pointer (some ⟨3, 139, none⟩)])]).run Tryd.prog w = .ok (.bool true) w := by kernel_rfl
theorem ea_valueOf25 (e : Int) (w : World) : (ReflectliteValue.unpack (.iface 139 (.int .i64 e))).run Tryd.prog w
    = .ok (.agg #[.pointer (some ⟨3, 139, none⟩), .pointer (some ⟨w.heap.size, 0, none⟩), .int .u64 130]) (w.alloc (.cells #[.int .i64 e] 139)) := by kernel_rfl

theorem ea_elemOf27 (w : World) : (Rtype.elem? 141).run Tryd.prog w = .ok (some 139) w := by kernel_rfl
theorem ea_mk25 (p : Addr) (w : World) : (ReflectliteValue.mk 139 p ReflectliteValue.flagAddr).run Tryd.prog w = .ok (.agg #[.pointer (some ⟨3, 139, none⟩), .pointer (some p), .int .u64 386]) w := by kernel_rfl
theorem ea_elemV27 (a p : Addr) (W : World) (ha : W.cell? a = some (.pointer (some p))) :
    (ReflectliteValue.method (ReflectliteValue.valueError "reflectlite.Value.Elem" 0) ReflectliteValue.elem #[.agg #[.pointer (some ⟨3, 141, none⟩), .pointer (some a), .int .u64 150]]).run Tryd.prog W
      = .ok (.agg #[.pointer (some ⟨3, 139, none⟩), .pointer (some p), .int .u64 386]) W := by
  rw [ea_rlm]
  simp only [Sem.run_bind, ea_parts27, Result.andThen]
  simp [ReflectliteValue.elem, loadVar, isAgg, underlying, Tryd.underlying141, ha, Result.andThen, ea_elemOf27, ea_mk25]
theorem ea_rls (v x : Value) : ReflectliteValue.set #[v, x] = (do
    let (some (dst, a, fl), some (src, b, _)) := (← ReflectliteValue.parts v, ← ReflectliteValue.parts x)
      | unsupported (.noEntry "extern/(internal/reflectlite.Value).Set.zeroValue")
    if fl / ReflectliteValue.flagAddr % 2 == 0 then unsupported (.noEntry "extern/(internal/reflectlite.Value).Set.unaddressable")
    let val ← loadVar src b
    if ← Rtype.directlyAssignable dst src then storeVar dst a val
    else if ← Rtype.implements dst src then
      if (← Rtype.kind src) == 20 then
        match val with
        | .nilIface => unsupported (.noEntry "extern/reflectlite: a nil value of one interface type handed on as a value of another")
        | _ => storeVar dst a val
      else storeVar dst a (.iface src val)
    else panicString ("reflectlite.Set: value of type " ++ (← Rtype.spelt src) ++ " is not assignable to type " ++ (← Rtype.spelt dst))
    pure (.tuple #[])) := rfl
theorem ea_parts25a (a : Addr) (w : World) : (ReflectliteValue.parts (.agg #[.pointer (some ⟨3, 139, none⟩), .pointer (some a), .int .u64 386])).run Tryd.prog w = .ok (some (139, a, 386)) w := by kernel_rfl
theorem ea_parts25 (a : Addr) (w : World) : (ReflectliteValue.parts (.agg #[.pointer (some ⟨3, 139, none⟩), .pointer (some a), .int .u64 130])).run Tryd.prog w = .ok (some (139, a, 130)) w := by kernel_rfl
theorem ea_direct25 (w : World) : (Rtype.directlyAssignable 139 139).run Tryd.prog w = .ok true w := by kernel_rfl
theorem ea_size25 (w : World) : (sizeOf 139).run Tryd.prog w = .ok 1 w := by kernel_rfl
theorem ea_set25 (ta b : Addr) (e : Int) (old : Value) (W : World) (hb : W.cell? b = some (.int .i64 e)) (ht : W.cell? ta = some old) (hf : W.frozen? ta = false) :
    (ReflectliteValue.set #[.agg #[.pointer (some ⟨3, 139, none⟩), .pointer (some ta), .int .u64 386], .agg #[.pointer (some ⟨3, 139, none⟩), .pointer (some b), .int .u64 130]]).run Tryd.prog W
      = .ok (.tuple #[]) (W.setCell ta (.int .i64 e)) := by
  rw [ea_rls]
  simp only [Sem.run_bind, ea_parts25a, ea_parts25, Result.andThen]
  simp [ReflectliteValue.flagAddr, loadVar, isAgg, underlying, Tryd.underlying139, hb, Result.andThen, ea_direct25, storeVar, Value.cells, storeCells, Addr.add]
  rw [run_store Tryd.prog W ta _ _ (by rfl)]
  simp [ht, hf]

set_option maxHeartbeats 8000000 in
set_option maxRecDepth 100000 in
theorem ea_hit (e : Int) (t : Addr) (old : Value) (w : World) (hg : w.cell? ⟨2, 0, none⟩ = some (.iface 158 (.agg #[.pointer (some ⟨3, 106, none⟩)]))) (ht0 : w.cell? t = some old) (hf0 : w.frozen? t = false) :
    Calls Tryd.prog 93 #[.iface 139 (.int .i64 e), .iface 141 (.pointer (some t))] w fun ev w' => ev = .returned (.bool true) ∧ w' = ((((w.alloc (.cells #[.pointer (some t)] 141)).alloc (.cells #[.pointer (some ⟨3, 141, none⟩), .pointer (some ⟨w.heap.size, 0, none⟩), .int .u64 150] 148)).alloc (.cells #[.pointer (some ⟨3, 141, none⟩), .pointer (some ⟨w.heap.size, 0, none⟩), .int .u64 150] 148)).alloc (.cells #[.int .i64 e] 139)).setCell t (.int .i64 e) := by
  have h6 := @run_callFunc_extern Tryd.prog 97 _ (fun args => ReflectliteValue.unpack (args.getD 0 (.tuple #[]))) Tryd.func97 (by kernel_rfl) (by kernel_rfl) (by kernel_rfl) (by kernel_rfl)
  have h7 := @run_callFunc_extern Tryd.prog 98 _ (ReflectliteValue.methodAny (ReflectliteValue.valueError "reflectlite.Value.Type" 0) (fun t _ _ _ => ReflectliteType.toType t)) Tryd.func98 (by kernel_rfl) (by kernel_rfl) (by kernel_rfl) (by kernel_rfl)
  have h8 := @run_callFunc_extern Tryd.prog 99 _ (ReflectliteValue.method (ReflectliteValue.valueError "reflectlite.Value.IsNil" 0) ReflectliteValue.isNil) Tryd.func99 (by kernel_rfl) (by kernel_rfl) (by kernel_rfl) (by kernel_rfl)
  have h27 := @run_callFunc_extern Tryd.prog 118 _ (ReflectliteType.abiMethod fun t => do pure (.int .u8 (← Rtype.kind t))) Tryd.func118 (by kernel_rfl) (by kernel_rfl) (by kernel_rfl) (by kernel_rfl)
  have h37 := @run_callFunc_extern Tryd.prog 129 _ (ReflectliteType.method ReflectliteType.elem) Tryd.func129 (by kernel_rfl) (by kernel_rfl) (by kernel_rfl) (by kernel_rfl)
  have h38 := @run_callFunc_extern Tryd.prog 130 _ (ReflectliteType.relation "Implements" ReflectliteType.implements_) Tryd.func130 (by kernel_rfl) (by kernel_rfl) (by kernel_rfl) (by kernel_rfl)
  have h10 := @run_callFunc_extern Tryd.prog 101 _ ReflectliteType.typeOf Tryd.func101 (by kernel_rfl) (by kernel_rfl) (by kernel_rfl) (by kernel_rfl)
  have h35 := @run_callFunc_extern Tryd.prog 127 _ (ReflectliteType.relation "AssignableTo" ReflectliteType.assignableTo) Tryd.func127 (by kernel_rfl) (by kernel_rfl) (by kernel_rfl) (by kernel_rfl)
  have h11 := @run_callFunc_extern Tryd.prog 102 _ (ReflectliteValue.method (ReflectliteValue.valueError "reflectlite.Value.Elem" 0) ReflectliteValue.elem) Tryd.func102 (by kernel_rfl) (by kernel_rfl) (by kernel_rfl) (by kernel_rfl)
  have h12 := @run_callFunc_extern Tryd.prog 103 _ ReflectliteValue.set Tryd.func103 (by kernel_rfl) (by kernel_rfl) (by kernel_rfl) (by kernel_rfl)
  have tO := ea_typeOf25
  have mA := ea_methodAssignableTo
  have a25 := ea_assignable25
  have v25 := ea_valueOf25
  have f6 := ea_valueOf27
  have f7 := ea_type27
  have mK := ea_methodKind
  have mE := ea_methodElem
  have mI := ea_methodImplements
  have k27 := ea_kind27
  have k25 := ea_kind25
  have e27 := ea_elem27
  have i25 := ea_implements25
  have n8 := ea_isNil27 ⟨w.heap.size, 0, none⟩ t ((w.alloc (.cells #[.pointer (some t)] 141)).alloc (.cells #[.pointer (some ⟨3, 141, none⟩), .pointer (some ⟨w.heap.size, 0, none⟩), .int .u64 150] 148)) (by simp)
  have hlt : 2 < w.heap.size := by
    rcases Nat.lt_or_ge 2 w.heap.size with h | h
    · exact h
    · simp [World.cell?, Array.getElem?_eq_none h] at hg
  have hg2 : ((w.alloc (.cells #[.pointer (some t)] 141)).alloc (.cells #[.pointer (some ⟨3, 141, none⟩), .pointer (some ⟨w.heap.size, 0, none⟩), .int .u64 150] 148)).cell? ⟨2, 0, none⟩ = some (.iface 158 (.agg #[.pointer (some ⟨3, 106, none⟩)])) := by
    rw [World.cell?_alloc_lt _ _ ⟨2, 0, none⟩ (by simp; omega), World.cell?_alloc_lt _ _ ⟨2, 0, none⟩ hlt]; exact hg
  have htl : t.block < w.heap.size := by
    rcases Nat.lt_or_ge t.block w.heap.size with h | h
    · exact h
    · simp [World.cell?, Array.getElem?_eq_none h] at ht0
  have el := ea_elemV27 ⟨w.heap.size, 0, none⟩ t (((w.alloc (.cells #[.pointer (some t)] 141)).alloc (.cells #[.pointer (some ⟨3, 141, none⟩), .pointer (some ⟨w.heap.size, 0, none⟩), .int .u64 150] 148)).alloc (.cells #[.pointer (some ⟨3, 141, none⟩), .pointer (some ⟨w.heap.size, 0, none⟩), .int .u64 150] 148)) (by rw [World.cell?_alloc_lt _ _ ⟨w.heap.size, 0, none⟩ (by simp; omega)]; simp)
  have st := ea_set25 t ⟨w.heap.size + 1 + 1 + 1, 0, none⟩ e old ((((w.alloc (.cells #[.pointer (some t)] 141)).alloc (.cells #[.pointer (some ⟨3, 141, none⟩), .pointer (some ⟨w.heap.size, 0, none⟩), .int .u64 150] 148)).alloc (.cells #[.pointer (some ⟨3, 141, none⟩), .pointer (some ⟨w.heap.size, 0, none⟩), .int .u64 150] 148)).alloc (.cells #[.int .i64 e] 139))
    (by rw [World.cell?_alloc_at _ _ _ _ (by simp)]; rfl)
    (by rw [World.cell?_alloc_lt _ _ t (by simp; omega), World.cell?_alloc_lt _ _ t (by simp; omega), World.cell?_alloc_lt _ _ t (by simp; omega), World.cell?_alloc_lt _ _ t htl]; exact ht0)
    (by rw [World.frozen?_alloc_old _ _ t (by simp; omega), World.frozen?_alloc_old _ _ t (by simp; omega), World.frozen?_alloc_old _ _ t (by simp; omega), World.frozen?_alloc_old _ _ t (Nat.ne_of_lt htl)]; exact hf0)
  go_enter Tryd.func93, Tryd.ntmps93
  go_wp2
  refine wp_loop_rounds 1 ?_
  rw [rounds_succ]
  go_wp2
  go_ret
  exact ⟨rfl, rfl⟩
end
theorem impl_codeOf.nil (w : World) : Calls Tryd.prog 71 #[.nilIface] w fun e w' => e = .returned (.int .i64 0) ∧ Below w.heap.size w w' := by
  have HB0 : Aside0 (Below w.heap.size w w) := ⟨Below.refl _ _⟩
  obtain ⟨s0, Sz0⟩ : ∃ s0, Aside0 (w.heap.size = s0) := ⟨_, ⟨rfl⟩⟩
  have hw0 : w.heap.size ≤ s0 := Nat.le_of_eq Sz0.out
  have hw1 : s0 ≤ w.heap.size := Nat.le_of_eq Sz0.out.symm
  have Z139 : ∀ w, (zeroValue 139).run Tryd.prog w = .ok (.int .i64 0) w := fun _ => by kernel_rfl
  go_enter Tryd.func71, Tryd.ntmps71
  go_wp2_with (first | ((with_reducible refine gate_dst (N := 3) rfl ?_); refine hx_alloc rfl 3 rfl 139 rfl Sz0 (.int .i64 0) #[.int .i64 0] Z139 rfl ?_; intro w1 s1 L1 Sz1 b_ g_; have H1 := Aside0.mk g_; have HB1 := Aside0.mk (below_then HB0.out HB0.out.size b_); clear b_ g_ HB0) | (go_at_call 93; refine (ea_nil _ _).mono ?_; rintro e_ w2 ⟨rfl, rfl⟩))
  go_ret
  exact ⟨rfl, HB1.out⟩
set_option maxHeartbeats 8000000 in
set_option maxRecDepth 100000 in
theorem impl_codeOf.hit (c : Int) (w : World) (hg : (w.cell? ⟨2, 0, none⟩ = some (.iface 158 (.agg #[.pointer (some ⟨3, 106, none⟩)])))) : Calls Tryd.prog 71 #[.iface 139 (.int .i64 c)] w fun e w' => e = .returned (.int .i64 c) ∧ Below w.heap.size w w' := by
  have HB0 : Aside0 (Below w.heap.size w w) := ⟨Below.refl _ _⟩
  obtain ⟨s0, Sz0⟩ : ∃ s0, Aside0 (w.heap.size = s0) := ⟨_, ⟨rfl⟩⟩
  have hw0 : w.heap.size ≤ s0 := Nat.le_of_eq Sz0.out
  have hw1 : s0 ≤ w.heap.size := Nat.le_of_eq Sz0.out.symm
  have HG := Aside0.mk hg
  clear hg
  have Z139 : ∀ w, (zeroValue 139).run Tryd.prog w = .ok (.int .i64 0) w := fun _ => by kernel_rfl
  go_enter Tryd.func71, Tryd.ntmps71
  go_wp2_with (first | ((with_reducible refine gate_dst (N := 3) rfl ?_); refine hx_alloc rfl 3 rfl 139 rfl Sz0 (.int .i64 0) #[.int .i64 0] Z139 rfl ?_; intro w1 s1 L1 Sz1 b_ g_; have H1 := Aside0.mk g_; have HB1 := Aside0.mk (below_then HB0.out HB0.out.size b_); clear b_ g_ HB0) | (go_at_call 93; refine (ea_hit c ⟨s0, 0, none⟩ (.int .i64 0) _ (ea_kept HB1.out HG.out (ea_lt HG.out)) (blk_cell H1.out 0) (ea_thaw H1.out 0)).mono ?_; rintro e_ w2 ⟨rfl, hw2⟩; have hz_ := Sz1.out; have hc_ := ea_cell hw2 H1.out (by omega); have HB2 := Aside0.mk (ea_below hw2 HB1.out (by omega) (by omega)); clear hw2 hz_))
  go_ret
  exact ⟨rfl, HB2.out⟩

open Go.Proofs.YtkghgjehjchajaaDoorW Go.Proofs.YtkghgjehjchajaaDoorW.PrintHand Go.Proofs.YtkghgjehjchajaaDoorW.PrintHx
/-! ### impl_ChooseFsinfo: function 36 -/
open Go.Proofs.YtkghgjehjchajaaDoorW.PrintLe Go.Proofs.YtkghgjehjchajaaDoorW.PrintGrow Go.Proofs.YtkghgjehjchajaaDoorW.PrintDec Go.Proofs.YtkghgjehjchajaaDoorW.PrintIno Go.Proofs.YtkghgjehjchajaaDoorW.PrintTab2 Go.Proofs.YtkghgjehjchajaaDoorW.PrintTab3 Go.Proofs.YtkghgjehjchajaaDoorW.PrintFsi Go.Proofs.YtkghgjehjchajaaDoorW.PrintFsb Go.Proofs.YtkghgjehjchajaaDoorW.PrintFsd Go.Proofs.YtkghgjehjchajaaDoorW.PrintCrc Go.Proofs.YtkghgjehjchajaaDoorW.PrintChs Go.Proofs.YtkghgjehjchajaaDoorW.PrintOrd
section
variable {P : Program} {ops : Array Oper} {Q : Exit → Act → World → Prop} {a : Act} {w : World}
/-- Two loads and, behind the first, a store elsewhere: three orders that meet again. -/
theorem ch_orders {fuel : Nat} {listed : Array Bool} {o3 o7 : Oper} (h3 : ops[3]? = some o3) (h7 : ops[7]? = some o7) (g3 : o3.guard = none) (g7 : o7.guard = none) {d3 d7 : Tmp} (e3 : o3.dst = some d3) (e7 : o7.dst = some d7) (ne : d3 ≠ d7)
    (r0 : Region.ready .any ops listed = [3, 7]) (r3 : Region.ready .any ops (listed.setIfInBounds 3 true) = [7, 8]) (r7 : Region.ready .any ops (listed.setIfInBounds 7 true) = [3])
    (r37 : Region.ready .any ops ((listed.setIfInBounds 3 true).setIfInBounds 7 true) = [8]) (r73 : Region.ready .any ops ((listed.setIfInBounds 7 true).setIfInBounds 3 true) = [8]) (r38 : Region.ready .any ops ((listed.setIfInBounds 3 true).setIfInBounds 8 true) = [7])
    (v3 v7 : Value) (l3 : (execOp a.eval o3).run P w = .ok (.value v3) w) (l3' : (execOp (a.put (some d7) v7).eval o3).run P w = .ok (.value v3) w)
    (l7 : (execOp (a.put (some d3) v3).eval o7).run P w = .ok (.value v7) w) (l7' : (execOp a.eval o7).run P w = .ok (.value v7) w) (T : World → Prop)
    (stA : ∀ K, (∀ w', T w' → K (a.put (some d3) v3) w') → wpOp P ops Q 8 K (a.put (some d3) v3) w) (stB : ∀ K, (∀ w', T w' → K ((a.put (some d3) v3).put (some d7) v7) w') → wpOp P ops Q 8 K ((a.put (some d3) v3).put (some d7) v7) w)
    (l78 : ∀ w', T w' → (execOp (a.put (some d3) v3).eval o7).run P w' = .ok (.value v7) w')
    (hk : ∀ w', T w' → wpAny P .any ops Q fuel (((listed.setIfInBounds 3 true).setIfInBounds 7 true).setIfInBounds 8 true) ((a.put (some d3) v3).put (some d7) v7) w') : wpAny P .any ops Q (fuel + 3) listed a w := by
  refine wpAny_all r0 (by simp) (fun i hi => ?_)
  simp only [List.mem_cons, List.not_mem_nil, or_false] at hi
  rcases hi with rfl | rfl
  · refine op_run h3 g3 v3 l3 ?_
    rw [e3]
    refine wpAny_all r3 (by simp) (fun i hi => ?_)
    simp only [List.mem_cons, List.not_mem_nil, or_false] at hi
    rcases hi with rfl | rfl
    · refine op_run h7 g7 v7 l7 ?_
      rw [e7]
      refine wpAny_all r37 (by simp) (fun i hi => ?_)
      simp only [List.mem_cons, List.not_mem_nil, or_false] at hi
      subst hi
      exact stB _ hk
    · refine stA _ (fun w' h => ?_)
      refine wpAny_all r38 (by simp) (fun i hi => ?_)
      simp only [List.mem_cons, List.not_mem_nil, or_false] at hi
      subst hi
      refine op_run h7 g7 v7 (l78 w' h) ?_
      rw [e7, Array.setIfInBounds_comm (i := 8) (j := 7) _ _ (by decide)]
      exact hk w' h
  · refine op_run h7 g7 v7 l7' ?_
    rw [e7]
    refine wpAny_all r7 (by simp) (fun i hi => ?_)
    simp only [List.mem_cons, List.not_mem_nil, or_false] at hi
    subst hi
    refine op_run h3 g3 v3 l3' ?_
    rw [e3]
    refine wpAny_all r73 (by simp) (fun i hi => ?_)
    simp only [List.mem_cons, List.not_mem_nil, or_false] at hi
    subst hi
    rw [← put_comm _ _ _ ne, Array.setIfInBounds_comm (i := 7) (j := 3) _ _ (by decide)]
    exact stB _ hk
theorem op_store {i : Nat} {o : Oper} (hi : ops[i]? = some o) (hgd : o.guard = none) (hN : o.dst = none) (ty : TypeId) (p x : Operand) (ho : o.op = .store ty p x) (g n : Nat) (hp : a.eval p = .pointer (some ⟨g, 0, none⟩)) {t : TypeId} {cs : Array Value} (new : Array Value) (hx : a.eval x = .agg new)
    (ht : (P.info? ty).map (·.size) = some n) (hn : new.size = n) (h1 : new.toList.all (·.oneCell') = true) (hg : w.heap[g]? = some (.cells cs t (0, 0))) (hfit : cs.size = n) (K : Act → World → Prop)
    (h : ∀ w', PrintHand.Touch g w w' ∧ w'.heap[g]? = some (.cells new t (0, 0)) → K a w') : wpOp P ops Q i K a w := by
  unfold wpOp
  simp only [hi]
  have hw : Region.wanted o (yielded ops a.tmps) = true := by simp [Region.wanted, hgd]
  rw [if_pos hw]
  refine .inl ?_
  have hrun := run_store_run (P := P) (w := w) (g := g) (o := 0) ty (.agg new) new.toList hg rfl (by rw [ht, Array.length_toList, hn]) (by rw [Array.length_toList]; omega) (fun q hq => List.all_eq_true.1 h1 q hq)
  unfold Oper.wp execOp
  simp only [ho, hp, hx, Sem.run_bind, Sem.run_pure, Result.andThen_ok, hrun]
  obtain ⟨cur', h3, h4, h5⟩ := setCells_row new.toList 0 w cs hg (by rw [Array.length_toList]; omega)
  have hc : cur' = new := by
    apply Array.toList_inj.1
    rw [h5, List.take_zero, List.nil_append, List.drop_eq_nil_of_le (by rw [Array.length_toList, Array.length_toList]; omega), List.append_nil]
  rw [hc] at h3
  have hput : a.put o.dst undef = a := by simp [Act.put, hN]
  show K (a.put o.dst undef) (w.setCells g 0 new.toList)
  rw [hput]
  exact h _ ⟨touch_setCells g 0 new.toList w, h3⟩
theorem ch_path {md : Region.Mode} {b : Array Bool} (T : List Nat) (hT : (T.map fun t => ops[t]?) = (T.filterMap fun t => ops[t]?).map some) (hB : pathB md ops T b = true) (h : wpList P ops Q (T.filterMap fun t => ops[t]?) a w) : wpAny P md ops Q T.length b a w := wpAny_of_path T _ b a w hT hB h
theorem ch_ld {o : Oper} (ty : TypeId) (x : Operand) (ho : o.op = .load ty x) (ad : Addr) (hx : a.eval x = .pointer (some ad)) (v : Value) (h : (loadVar ty ad).run P w = .ok v w) : (execOp a.eval o).run P w = .ok (.value v) w := by
  unfold execOp
  simp only [ho, hx, Instr.loadAt, Instr.sureAddr, Sem.run_bind, Sem.run_pure, Result.andThen_ok, h]
theorem ch_load1 (ty : TypeId) (g off : Nat) {t : TypeId} {cs : Array Value} {d : TypeDesc} (v : Value) (hu : P.underlying ty = some d) (hd : (match d with | .struct _ | .array _ _ => true | _ => false) = false) (hg : w.heap[g]? = some (.cells cs t (0, 0))) (hv : cs[off]? = some v) : (loadVar ty ⟨g, off, none⟩).run P w = .ok v w := by
  have hagg : (isAgg ty).run P w = .ok false w := by
    unfold isAgg
    rw [Sem.run_bind, run_underlying hu w]
    cases d <;> simp_all
  have hc : w.cell? ⟨g, off, none⟩ = some v := (blk_cell hg off).trans hv
  unfold loadVar
  rw [Sem.run_bind, hagg]
  simp [hc]
end
def impl_ChooseFsinfo.f (l0 : List Int) : Option (List Int × Int × Int) := if l0.length ≤ 1048576 ∧ ∀ x ∈ l0, 0 ≤ x ∧ x ≤ 255 then some (chooseF (decB l0) l0) else none
set_option maxHeartbeats 8000000 in
set_option maxRecDepth 100000 in
theorem impl_ChooseFsinfo.calls (A0 : Option Addr) (c0 : Nat) (l0 : List Int) (r1 : List Int) (r2 r3 : Int) (w : World) (hv : Kd.C (Kd.int .u8) w (some ⟨1, 0, none⟩) 8 magicF) (hg : (w.cell? ⟨2, 0, none⟩ = some (.iface 158 (.agg #[.pointer (some ⟨3, 106, none⟩)])))) (hr0 : Kd.C (Kd.int .u8) w A0 l0.length l0) (hc0 : l0.length ≤ c0) (h : impl_ChooseFsinfo.f l0 = some (r1, r2, r3)) :
    Calls Tryd.prog 36 #[.slice A0 l0.length c0] w fun e w' => e = .returned (.tuple #[.agg (nums .i64 r1).toArray, .int .i64 r2, .int .i64 r3]) ∧ Below w.heap.size w w' := by
  unfold impl_ChooseFsinfo.f at h
  by_cases hdom : l0.length ≤ 1048576 ∧ ∀ x ∈ l0, 0 ≤ x ∧ x ≤ 255
  case neg => rw [if_neg hdom] at h; cases h
  rw [if_pos hdom] at h
  have H := Aside0.mk (Option.some.inj h)
  have HLM := Aside0.mk hdom.1
  have HBY := Aside0.mk hdom.2
  have HV := Aside0.mk hv
  have HGE := Aside0.mk hg
  have HR0 := Aside0.mk hr0
  have HC0 := Aside0.mk hc0
  have Z48 : ∀ w, (zeroValue 48).run Tryd.prog w = .ok (.agg (nums .i64 (List.replicate 68 0)).toArray) w := fun _ => by kernel_rfl
  have NZ := Aside0.mk (show (List.replicate 68 (0 : Int)).length = 68 by simp)
  clear h hdom hv hg hr0 hc0
  have HB0 : Aside0 (Below w.heap.size w w) := ⟨Below.refl _ _⟩
  obtain ⟨s0, Sz0⟩ : ∃ s0, Aside0 (w.heap.size = s0) := ⟨_, ⟨rfl⟩⟩
  have hw0 : w.heap.size ≤ s0 := Nat.le_of_eq Sz0.out
  have hw1 : s0 ≤ w.heap.size := Nat.le_of_eq Sz0.out.symm
  by_cases h3 : r3 = 0
  case neg =>
    have H3 := Aside0.mk h3
    clear h3
    go_enter Tryd.func36, Tryd.ntmps36
    go_wp2_with (first | ((with_reducible refine gate_dst (N := 2) rfl ?_); refine hx_alloc rfl 2 rfl 48 rfl Sz0 (.agg (nums .i64 (List.replicate 68 0)).toArray) (nums .i64 (List.replicate 68 0)).toArray Z48 rfl ?_; intro w1 s1 Ls1 Ss1 b_ g_; have H2 := Aside0.mk g_; have HB1 := Aside0.mk (below_then HB0.out HB0.out.size b_); clear b_ g_ HB0) | ((with_reducible refine gate_dst (N := 9) rfl ?_); refine goesL_ (some 9) rfl rfl Tryd.func70 (by kernel_rfl) rfl #[.slice A0 l0.length c0] rfl (by (try simp only [List.map_toArray, List.map_cons, List.map_nil]); first | done | rfl) ?_; refine (impl_openVolume.calls A0 c0 l0 _ _ _ _ (Kd.C_below HV.out HB1.out) (Kd.C_below HR0.out HB1.out) HC0.out HLM.out HBY.out H.out).mono ?_; rintro e_ w2 ⟨ho_, b_⟩; obtain ⟨_, hr1_, hr2_, rfl⟩ := ho_.resolve_left (fun h_ => H3.out h_.1); refine ⟨_, rfl, ?_⟩; have H2_2 := Aside0.mk (blk_below H2.out b_); have HB2 := Aside0.mk (below_then HB1.out HB1.out.size b_); have hz_ := blk_lt H2_2.out; clear b_ ho_ H2 HB1) | ((with_reducible refine gate_dst (N := 16) rfl ?_); refine goesL_ (some 16) rfl rfl Tryd.func71 (by kernel_rfl) rfl #[.iface 139 (.int .i64 r3)] rfl (by (try simp only [List.map_toArray, List.map_cons, List.map_nil]); first | done | rfl) ?_; refine (impl_codeOf.hit r3 _ (ea_kept HB2.out HGE.out (ea_lt HGE.out))).mono ?_; rintro e_ w3 ⟨rfl, b_⟩; refine ⟨_, rfl, ?_⟩; have H2_3 := Aside0.mk (blk_below H2_2.out b_); have HB3 := Aside0.mk (below_then HB2.out HB2.out.size b_); clear b_ H2_2 HB2) | ((with_reducible refine gate_store (t := 48) (p := 2) (v := .tmp 14) rfl ?_); refine hx_store rfl rfl 48 (.tmp 2) (.tmp 14) rfl s0 68 rfl (nums .i64 (List.replicate 68 0)).toArray rfl (by kernel_rfl) (nums_size _ _ _ NZ.out) (nums_one _ _) H2_3.out (by simp [nums]) ?_; intro we t_ gg_; have HE := Aside0.mk gg_; have HEB := Aside0.mk (t_.below HB3.out (by omega)); clear t_ gg_ H2_3 HB3 ))
    (try subst hr2_)
    (try subst hr1_)
    exact bodyPost_ret (results_ctt rfl _ _ s0 48 (nums .i64 (List.replicate 68 0)).toArray (0, 0) _ rfl HE.out Tryd.underlying48 rfl (by rw [nums_size _ _ _ NZ.out]; kernel_rfl)) rfl ⟨rfl, HEB.out⟩
  subst h3
  go_enter Tryd.func36, Tryd.ntmps36
  go_wp2_with (first | ((with_reducible refine gate_dst (N := 2) rfl ?_); refine hx_alloc rfl 2 rfl 48 rfl Sz0 (.agg (nums .i64 (List.replicate 68 0)).toArray) (nums .i64 (List.replicate 68 0)).toArray Z48 rfl ?_; intro w1 s1 Ls1 Ss1 b_ g_; have H2 := Aside0.mk g_; have HB1 := Aside0.mk (below_then HB0.out HB0.out.size b_); clear b_ g_ HB0) | ((with_reducible refine gate_dst (N := 9) rfl ?_); refine goesL_ (some 9) rfl rfl Tryd.func70 (by kernel_rfl) rfl #[.slice A0 l0.length c0] rfl (by (try simp only [List.map_toArray, List.map_cons, List.map_nil]); first | done | rfl) ?_; refine (impl_openVolume.calls A0 c0 l0 _ _ _ _ (Kd.C_below HV.out HB1.out) (Kd.C_below HR0.out HB1.out) HC0.out HLM.out HBY.out H.out).mono ?_; rintro e_ w2 ⟨ho_, b_⟩; obtain ⟨_, nl_, g, rfl, hg_, hle_⟩ := ho_.resolve_right (fun h_ => h_.1 rfl); have NL := Aside0.mk nl_; have HG := Aside0.mk hg_; have hgl_ := blk_lt hg_; rw [Ss1.out] at hle_; clear nl_ hg_; refine ⟨_, rfl, ?_⟩; have H2_2 := Aside0.mk (blk_below H2.out b_); have HB2 := Aside0.mk (below_then HB1.out HB1.out.size b_); have hz_ := blk_lt H2_2.out; clear b_ ho_ H2 HB1))
  (try simp only [Act.put, List.setIfInBounds_toArray, List.set_cons_succ, List.set_cons_zero])
  refine wp_region_any (by kernel_rfl) ?_
  have HGd := Aside0.mk (blk_drew HG.out)
  have H2d := Aside0.mk (blk_drew H2_2.out)
  have HBd := Aside0.mk (below_drew1 HB2.out)
  clear HG H2_2 HB2
  change wpAny _ _ _ _ 11 _ _ w2.drew
  generalize w2.drew = wd at HGd H2d HBd ⊢
  refine wpAny_take (i := 0) (v := .pointer (some ⟨g, 0, none⟩)) rfl (by kernel_rfl) (by kernel_rfl) (by kernel_rfl) (fun _ _ _ h => h) (.inl ⟨rfl, fun w_ => ?_⟩) ?_
  · unfold execOp
    go_simp
    (try rfl)
  simp only [List.getElem_toArray, List.getElem_cons_succ, List.getElem_cons_zero, Act.put, List.setIfInBounds_toArray, List.set_cons_succ, List.set_cons_zero]
  refine wpAny_take (i := 1) (v := .pointer (some ⟨g, 0, none⟩)) rfl (by kernel_rfl) (by kernel_rfl) (by kernel_rfl) (fun _ _ _ h => h) (.inl ⟨rfl, fun w_ => ?_⟩) ?_
  · unfold execOp
    go_simp
    (try rfl)
  simp only [List.getElem_toArray, List.getElem_cons_succ, List.getElem_cons_zero, Act.put, List.setIfInBounds_toArray, List.set_cons_succ, List.set_cons_zero]
  refine wpAny_take (i := 2) (v := .pointer (some ⟨g, 1, none⟩)) rfl (by kernel_rfl) (by kernel_rfl) (by kernel_rfl) (fun _ _ _ h => h) (.inl ⟨rfl, fun w_ => ?_⟩) ?_
  · unfold execOp
    go_simp
    (try rfl)
  simp only [List.getElem_toArray, List.getElem_cons_succ, List.getElem_cons_zero, Act.put, List.setIfInBounds_toArray, List.set_cons_succ, List.set_cons_zero]
  refine wpAny_take (i := 4) (v := .pointer (some ⟨g, 0, none⟩)) rfl (by kernel_rfl) (by kernel_rfl) (by kernel_rfl) (fun _ _ _ h => h) (.inl ⟨rfl, fun w_ => ?_⟩) ?_
  · unfold execOp
    go_simp
    (try rfl)
  simp only [List.getElem_toArray, List.getElem_cons_succ, List.getElem_cons_zero, Act.put, List.setIfInBounds_toArray, List.set_cons_succ, List.set_cons_zero]
  refine wpAny_take (i := 5) (v := .pointer (some ⟨g, 0, none⟩)) rfl (by kernel_rfl) (by kernel_rfl) (by kernel_rfl) (fun _ _ _ h => h) (.inl ⟨rfl, fun w_ => ?_⟩) ?_
  · unfold execOp
    go_simp
    (try rfl)
  simp only [List.getElem_toArray, List.getElem_cons_succ, List.getElem_cons_zero, Act.put, List.setIfInBounds_toArray, List.set_cons_succ, List.set_cons_zero]
  refine wpAny_take (i := 6) (v := .pointer (some ⟨g, 69, none⟩)) rfl (by kernel_rfl) (by kernel_rfl) (by kernel_rfl) (fun _ _ _ h => h) (.inl ⟨rfl, fun w_ => ?_⟩) ?_
  · unfold execOp
    go_simp
    (try rfl)
  simp only [List.getElem_toArray, List.getElem_cons_succ, List.getElem_cons_zero, Act.put, List.setIfInBounds_toArray, List.set_cons_succ, List.set_cons_zero]
  have LD1 : ∀ W : World, W.heap[g]? = some (.cells (volC A0 l0.length c0 r1 r2).toArray 124 (0, 0)) → (loadVar 48 ⟨g, 1, none⟩).run Tryd.prog W = .ok (.agg (nums .i64 r1).toArray) W := fun W hW => run_load_nums W 48 ⟨g, 1, none⟩ r1 68 _ Tryd.underlying48 rfl (by kernel_rfl) NL.out (fun i hi => by rw [show (⟨g, 1, none⟩ : Addr).add i = ⟨g, 1 + i, none⟩ by unfold Addr.add; split <;> simp_all]; exact (blk_cell hW (1 + i)).trans (volC_rec NL.out i hi))
  have LD2 : ∀ W : World, W.heap[g]? = some (.cells (volC A0 l0.length c0 r1 r2).toArray 124 (0, 0)) → (loadVar 3 ⟨g, 69, none⟩).run Tryd.prog W = .ok (.int .i64 r2) W := fun W hW => ch_load1 3 g 69 _ Tryd.underlying3 rfl hW (volC_at NL.out)
  refine ch_orders (fuel := 2) rfl rfl rfl rfl rfl rfl (by decide) (by kernel_rfl) (by kernel_rfl) (by kernel_rfl) (by kernel_rfl) (by kernel_rfl) (by kernel_rfl) (.agg (nums .i64 r1).toArray) (.int .i64 r2) (ch_ld 48 (.tmp 19) rfl _ rfl _ (LD1 wd HGd.out)) (ch_ld 48 (.tmp 19) rfl _ rfl _ (LD1 wd HGd.out)) (ch_ld 3 (.tmp 23) rfl _ rfl _ (LD2 wd HGd.out)) (ch_ld 3 (.tmp 23) rfl _ rfl _ (LD2 wd HGd.out)) (fun w_ => PrintHand.Touch s0 wd w_ ∧ w_.heap[s0]? = some (.cells (nums .i64 r1).toArray 48 (0, 0))) (fun K h => op_store (i := 8) rfl rfl rfl 48 (.tmp 2) (.tmp 20) rfl s0 68 rfl (nums .i64 r1).toArray rfl (by kernel_rfl) (nums_size _ _ _ NL.out) (nums_one _ _) H2d.out (nums_size _ _ _ NZ.out) K h) (fun K h => op_store (i := 8) rfl rfl rfl 48 (.tmp 2) (.tmp 20) rfl s0 68 rfl (nums .i64 r1).toArray rfl (by kernel_rfl) (nums_size _ _ _ NL.out) (nums_one _ _) H2d.out (nums_size _ _ _ NZ.out) K h) (fun w' h => ch_ld 3 (.tmp 23) rfl _ rfl _ (LD2 w' (h.1.keep (show g ≠ s0 by omega) HGd.out))) ?_
  rintro wE ⟨t_, g_⟩
  have HE := Aside0.mk g_
  have HEB := Aside0.mk (t_.below HBd.out (by omega))
  clear t_ g_ LD1 LD2 HGd H2d HBd
  refine ch_path [9, 10] (by kernel_rfl) (by kernel_rfl) ?_
  simp only [List.filterMap_cons, List.filterMap_nil, List.getElem?_toArray, List.getElem?_cons_succ, List.getElem?_cons_zero]
  go_wp2
  exact bodyPost_ret (results_ctt rfl _ _ s0 48 (nums .i64 r1).toArray (0, 0) _ rfl HE.out Tryd.underlying48 rfl (by rw [nums_size _ _ _ NL.out]; kernel_rfl)) rfl ⟨rfl, HEB.out⟩

open Go.Proofs.YtkghgjehjchajaaDoorW Go.Proofs.YtkghgjehjchajaaDoorW.PrintHand Go.Proofs.YtkghgjehjchajaaDoorW.PrintHx
/-! ### laws_FnExactChooseFsinfo: function 8 -/
def laws_FnExactChooseFsinfo.Facts (l0 : List Int) : Prop := (∃ (k : Nat), (¬ ((l0.length : Int) > 1048576) → (∃ (r1_0 : List Int) (r2_0 : List Int) (r2_1 : Int) (r2_2 : Int) (r3_0 : List Int) (r4_0 : List Int) (r6_0 : List Int), laws_toByteS.f k l0 = some r1_0 ∧ r2_0.length = 68 ∧ spec_ChooseFsinfo.f r1_0 = some (r2_0, r2_1, r2_2) ∧ laws_toByteS.f k l0 = some r3_0 ∧ r4_0.length = 68 ∧ impl_ChooseFsinfo.f r3_0 = some (r4_0, r2_1, r2_2) ∧ laws_eqFsinfo.f r4_0 r2_0 = some true ∧ laws_toByteS.f k l0 = some r6_0 ∧ laws_eqByteS.f k r3_0 r6_0 = some true)))
def laws_FnExactChooseFsinfo.Pure : Prop := ∀ (l0 : List Int), (l0.length ≤ maxLen ∧ ∀ q154 ∈ l0, (Lit.int .u8 q154).wf = true) → laws_FnExactChooseFsinfo.Facts l0
set_option maxHeartbeats 8000000 in
set_option maxRecDepth 100000 in
theorem laws_FnExactChooseFsinfo.calls (A0 : Option Addr) (c0 : Nat) (l0 : List Int) (w : World) (hv : Kd.C (Kd.int .u8) w (some ⟨1, 0, none⟩) 8 Go.Proofs.YtkghgjehjchajaaDoorW.PrintFsb.magicF) (hg : w.cell? ⟨2, 0, none⟩ = some (.iface 158 (.agg #[.pointer (some ⟨3, 106, none⟩)]))) (hr0 : Kd.C (Kd.int .u8) w A0 l0.length l0) (hc0 : l0.length ≤ c0) (hf : laws_FnExactChooseFsinfo.Facts l0) :
    Calls Tryd.prog 8 #[.slice A0 l0.length c0] w fun e w' => e = .returned (.bool true) ∧ Below w.heap.size w w' := by
  have HR0 := Aside0.mk hr0; have HC0 := Aside0.mk hc0; clear hr0 hc0
  have HV := Aside0.mk hv; clear hv; have HGE := Aside0.mk hg; clear hg
  unfold laws_FnExactChooseFsinfo.Facts at hf
  have HB0 : Aside0 (Below w.heap.size w w) := ⟨Below.refl _ _⟩
  obtain ⟨s0, Sz0⟩ : ∃ s0, Aside0 (w.heap.size = s0) := ⟨_, ⟨rfl⟩⟩
  have hw0 : w.heap.size ≤ s0 := Nat.le_of_eq Sz0.out
  have hw1 : s0 ≤ w.heap.size := Nat.le_of_eq Sz0.out.symm
  have Z48 : ∀ w, (zeroValue 48).run Tryd.prog w = .ok (.agg (nums .i64 (List.replicate 68 0)).toArray) w := fun _ => by kernel_rfl
  obtain ⟨k, hf⟩ := hf
  by_cases g0_ : (l0.length : Int) > 1048576
  · clear hf
    (try (have g0__0 : decide (1048576 < (l0.length : Int)) = true := decide_eq_true g0_))
    (try (have g0__1 : decide (1048576 < l0.length) = true := decide_eq_true (by omega)))
    go_enter Tryd.func8, Tryd.ntmps8
    go_wp2
    go_ret
    exact ⟨rfl, HB0.out⟩
  replace hf := hf g0_
  (try (have g0__0 : decide (1048576 < (l0.length : Int)) = false := decide_eq_false g0_))
  (try (have g0__1 : decide (1048576 < l0.length) = false := decide_eq_false (by omega)))
  have G0_ := Aside0.mk g0_
  clear g0_
  obtain ⟨r1_0, r2_0, r2_1, r2_2, r3_0, r4_0, r6_0, eE1_, eN2_0_, eE2_, eE3_, eN4_0_, eE4_, eE5_, eE6_, eE7_⟩ := hf
  have E1 := Aside0.mk eE1_
  clear eE1_
  have N2_0 := Aside0.mk eN2_0_
  clear eN2_0_
  have E2 := Aside0.mk eE2_
  clear eE2_
  have E3 := Aside0.mk eE3_
  clear eE3_
  have N4_0 := Aside0.mk eN4_0_
  clear eN4_0_
  have E4 := Aside0.mk eE4_
  clear eE4_
  have E5 := Aside0.mk eE5_
  clear eE5_
  have E6 := Aside0.mk eE6_
  clear eE6_
  have E7 := Aside0.mk eE7_
  clear eE7_
  go_enter Tryd.func8, Tryd.ntmps8
  go_wp2_with (first | ((with_reducible refine gate_dst (N := 15) rfl ?_); refine goesL_ (some 15) rfl rfl Tryd.func17 (by kernel_rfl) rfl #[.slice A0 l0.length c0] rfl (by (try simp only [List.map_toArray, List.map_cons, List.map_nil]); first | done | rfl) ?_; refine (laws_toByteS.calls _ _ _ _ _ _ (Kd.C_below HR0.out HB0.out) HC0.out E1.out).mono ?_; rintro e_ w1 ⟨v0_, rfl, R1_0, b1⟩; obtain ⟨A1_0, c1_0, rfl⟩ := Kd.R_slice R1_0; refine ⟨_, rfl, ?_⟩; obtain ⟨s1, L1, Sz1⟩ := size_letter Sz0 (kept_below b1); have O1_0_1 := own_btw R1_0 Sz0.out Sz1 HB0.out.size; clear R1_0; have K0 := kept_below b1; have HB1 := Aside0.mk (below_then HB0.out HB0.out.size b1); clear b1; clear K0 HB0) | ((with_reducible refine gate_dst (N := 16) rfl ?_); refine goesL_ (some 16) rfl rfl Tryd.func35 (by kernel_rfl) rfl #[.slice A1_0 r1_0.length c1_0] rfl (by (try simp only [List.map_toArray, List.map_cons, List.map_nil]); first | done | rfl) ?_; refine (spec_ChooseFsinfo.calls _ _ _ _ _ _ _ (Kd.R_reads' O1_0_1.out).2.2 (Kd.R_reads' O1_0_1.out).2.1 E2.out).mono ?_; rintro e_ w2 ⟨rfl, b2⟩; refine ⟨_, rfl, ?_⟩; obtain ⟨s2, L2, Sz2⟩ := size_letter Sz1 (kept_below b2); have K1 := kept_below b2; have HB2 := Aside0.mk (below_then HB1.out HB1.out.size b2); have O1_0_2 := Aside0.mk (Kd.R_kept O1_0_1.out K1 (fun _ _ h_ => h_)); clear b2; clear K1 HB1 O1_0_1) | ((with_reducible refine gate_dst (N := 3) rfl ?_); refine hx_alloc rfl 3 rfl 48 rfl Sz2 (.agg (nums .i64 (List.replicate 68 0)).toArray) (nums .i64 (List.replicate 68 0)).toArray Z48 rfl ?_; intro w3 s3 L3 Sz3 b3 g_; have H3_3 := Aside0.mk g_; clear g_; have K2 := kept_below b3; have HB3 := Aside0.mk (below_then HB2.out HB2.out.size b3); have O1_0_3 := Aside0.mk (Kd.R_kept O1_0_2.out K2 (fun _ _ h_ => h_)); clear b3; clear K2 HB2 O1_0_2) | ((with_reducible refine gate_store (t := 48) (p := 3) (v := .tmp 17) rfl ?_); refine hx_store rfl rfl 48 (.tmp 3) (.tmp 17) rfl s2 68 rfl (nums .i64 r2_0).toArray rfl (by kernel_rfl) (nums_size _ _ _ N2_0.out) (nums_one _ _) H3_3.out (nums_size _ _ _ (by simp)) ?_; intro w4 t4 g4; have K3 := kept_touch t4; have HB4 := Aside0.mk (t4.below HB3.out (by omega)); have H3_4 := Aside0.mk g4; have O1_0_4 := Aside0.mk (Kd.R_kept O1_0_3.out K3 (fun k_ hk_ h_ => by have h1_ := hk_.1; have h2_ := hk_.2; have h3_ : k_ = _ := h_; omega)); have Sz4 := Aside0.mk (t4.size.trans Sz3.out); clear t4 g4; clear K3 HB3 H3_3 O1_0_3) | ((with_reducible refine gate_dst (N := 21) rfl ?_); refine goesL_ (some 21) rfl rfl Tryd.func17 (by kernel_rfl) rfl #[.slice A0 l0.length c0] rfl (by (try simp only [List.map_toArray, List.map_cons, List.map_nil]); first | done | rfl) ?_; refine (laws_toByteS.calls _ _ _ _ _ _ (Kd.C_below HR0.out HB4.out) HC0.out E3.out).mono ?_; rintro e_ w5 ⟨v0_, rfl, R3_0, b5⟩; obtain ⟨A3_0, c3_0, rfl⟩ := Kd.R_slice R3_0; refine ⟨_, rfl, ?_⟩; obtain ⟨s5, L5, Sz5⟩ := size_letter Sz4 (kept_below b5); have O3_0_5 := own_btw R3_0 Sz4.out Sz5 HB4.out.size; clear R3_0; have K4 := kept_below b5; have HB5 := Aside0.mk (below_then HB4.out HB4.out.size b5); have H3_5 := Aside0.mk (blk_kept H3_4.out K4 (fun h_ => h_)); have O1_0_5 := Aside0.mk (Kd.R_kept O1_0_4.out K4 (fun _ _ h_ => h_)); clear b5; clear K4 HB4 H3_4 O1_0_4) | ((with_reducible refine gate_dst (N := 24) rfl ?_); refine goesL_ (some 24) rfl rfl Tryd.func36 (by kernel_rfl) rfl #[.slice A3_0 r3_0.length c3_0] rfl (by (try simp only [List.map_toArray, List.map_cons, List.map_nil]); first | done | rfl) ?_; refine (impl_ChooseFsinfo.calls _ _ _ _ _ _ _ (Kd.C_below HV.out HB5.out) (ea_kept HB5.out HGE.out (ea_lt HGE.out)) (Kd.R_reads' O3_0_5.out).2.2 (Kd.R_reads' O3_0_5.out).2.1 E4.out).mono ?_; rintro e_ w6 ⟨rfl, b6⟩; refine ⟨_, rfl, ?_⟩; obtain ⟨s6, L6, Sz6⟩ := size_letter Sz5 (kept_below b6); have K5 := kept_below b6; have HB6 := Aside0.mk (below_then HB5.out HB5.out.size b6); have H3_6 := Aside0.mk (blk_kept H3_5.out K5 (fun h_ => h_)); have O1_0_6 := Aside0.mk (Kd.R_kept O1_0_5.out K5 (fun _ _ h_ => h_)); have O3_0_6 := Aside0.mk (Kd.R_kept O3_0_5.out K5 (fun _ _ h_ => h_)); clear b6; clear K5 HB5 H3_5 O1_0_5 O3_0_5) | ((with_reducible refine gate_dst (N := 7) rfl ?_); refine hx_alloc rfl 7 rfl 48 rfl Sz6 (.agg (nums .i64 (List.replicate 68 0)).toArray) (nums .i64 (List.replicate 68 0)).toArray Z48 rfl ?_; intro w7 s7 L7 Sz7 b7 g_; have H7_7 := Aside0.mk g_; clear g_; have K6 := kept_below b7; have HB7 := Aside0.mk (below_then HB6.out HB6.out.size b7); have H3_7 := Aside0.mk (blk_kept H3_6.out K6 (fun h_ => h_)); have O1_0_7 := Aside0.mk (Kd.R_kept O1_0_6.out K6 (fun _ _ h_ => h_)); have O3_0_7 := Aside0.mk (Kd.R_kept O3_0_6.out K6 (fun _ _ h_ => h_)); clear b7; clear K6 HB6 H3_6 O1_0_6 O3_0_6) | ((with_reducible refine gate_store (t := 48) (p := 7) (v := .tmp 25) rfl ?_); refine hx_store rfl rfl 48 (.tmp 7) (.tmp 25) rfl s6 68 rfl (nums .i64 r4_0).toArray rfl (by kernel_rfl) (nums_size _ _ _ N4_0.out) (nums_one _ _) H7_7.out (nums_size _ _ _ (by simp)) ?_; intro w8 t8 g8; have K7 := kept_touch t8; have HB8 := Aside0.mk (t8.below HB7.out (by omega)); have H3_8 := Aside0.mk (blk_kept H3_7.out K7 (by show ¬ (_ = _); omega)); have H7_8 := Aside0.mk g8; have O1_0_8 := Aside0.mk (Kd.R_kept O1_0_7.out K7 (fun k_ hk_ h_ => by have h1_ := hk_.1; have h2_ := hk_.2; have h3_ : k_ = _ := h_; omega)); have O3_0_8 := Aside0.mk (Kd.R_kept O3_0_7.out K7 (fun k_ hk_ h_ => by have h1_ := hk_.1; have h2_ := hk_.2; have h3_ : k_ = _ := h_; omega)); have Sz8 := Aside0.mk (t8.size.trans Sz7.out); clear t8 g8; clear K7 HB7 H3_7 H7_7 O1_0_7 O3_0_7) | ((with_reducible refine gate_dst (N := 28) rfl ?_); refine hx_load rfl 48 (.tmp 7) rfl s6 68 rfl Tryd.underlying48 rfl (by kernel_rfl) H7_8.out (nums_size _ _ _ N4_0.out) ?_) | ((with_reducible refine gate_dst (N := 29) rfl ?_); refine hx_load rfl 48 (.tmp 3) rfl s2 68 rfl Tryd.underlying48 rfl (by kernel_rfl) H3_8.out (nums_size _ _ _ N2_0.out) ?_) | ((with_reducible refine gate_dst (N := 30) rfl ?_); refine goesL_ (some 30) rfl rfl Tryd.func25 (by kernel_rfl) rfl #[.agg (nums .i64 r4_0).toArray, .agg (nums .i64 r2_0).toArray] rfl (by (try simp only [List.map_toArray, List.map_cons, List.map_nil]); first | done | rfl) ?_; refine (laws_eqFsinfo.calls _ N4_0.out _ N2_0.out _ _ E5.out).mono ?_; rintro e_ w9 ⟨rfl, b9⟩; refine ⟨_, rfl, ?_⟩; obtain ⟨s9, L9, Sz9⟩ := size_letter Sz8 (kept_below b9); have K8 := kept_below b9; have HB9 := Aside0.mk (below_then HB8.out HB8.out.size b9); have H3_9 := Aside0.mk (blk_kept H3_8.out K8 (fun h_ => h_)); have H7_9 := Aside0.mk (blk_kept H7_8.out K8 (fun h_ => h_)); have O1_0_9 := Aside0.mk (Kd.R_kept O1_0_8.out K8 (fun _ _ h_ => h_)); have O3_0_9 := Aside0.mk (Kd.R_kept O3_0_8.out K8 (fun _ _ h_ => h_)); clear b9; clear K8 HB8 H3_8 H7_8 O1_0_8 O3_0_8) | ((with_reducible refine gate_dst (N := 44) rfl ?_); refine goesL_ (some 44) rfl rfl Tryd.func17 (by kernel_rfl) rfl #[.slice A0 l0.length c0] rfl (by (try simp only [List.map_toArray, List.map_cons, List.map_nil]); first | done | rfl) ?_; refine (laws_toByteS.calls _ _ _ _ _ _ (Kd.C_below HR0.out HB9.out) HC0.out E6.out).mono ?_; rintro e_ w10 ⟨v0_, rfl, R6_0, b10⟩; obtain ⟨A6_0, c6_0, rfl⟩ := Kd.R_slice R6_0; refine ⟨_, rfl, ?_⟩; obtain ⟨s10, L10, Sz10⟩ := size_letter Sz9 (kept_below b10); have O6_0_10 := own_btw R6_0 Sz9.out Sz10 HB9.out.size; clear R6_0; have K9 := kept_below b10; have HB10 := Aside0.mk (below_then HB9.out HB9.out.size b10); have H3_10 := Aside0.mk (blk_kept H3_9.out K9 (fun h_ => h_)); have H7_10 := Aside0.mk (blk_kept H7_9.out K9 (fun h_ => h_)); have O1_0_10 := Aside0.mk (Kd.R_kept O1_0_9.out K9 (fun _ _ h_ => h_)); have O3_0_10 := Aside0.mk (Kd.R_kept O3_0_9.out K9 (fun _ _ h_ => h_)); clear b10; clear K9 HB9 H3_9 H7_9 O1_0_9 O3_0_9) | ((with_reducible refine gate_dst (N := 45) rfl ?_); refine goesL_ (some 45) rfl rfl Tryd.func13 (by kernel_rfl) rfl #[.slice A3_0 r3_0.length c3_0, .slice A6_0 r6_0.length c6_0] rfl (by (try simp only [List.map_toArray, List.map_cons, List.map_nil]); first | done | rfl) ?_; refine (laws_eqByteS.calls _ _ _ _ _ _ _ _ _ (Kd.R_reads' O3_0_10.out).2.2 (Kd.R_reads' O3_0_10.out).2.1 (Kd.R_reads' O6_0_10.out).2.2 (Kd.R_reads' O6_0_10.out).2.1 E7.out).mono ?_; rintro e_ w11 ⟨rfl, b_⟩; have b11 := kept_drawn b_; refine ⟨_, rfl, ?_⟩; obtain ⟨s11, L11, Sz11⟩ := size_letter Sz10 (kept_below b11); have K10 := kept_below b11; have HB11 := Aside0.mk (below_then HB10.out HB10.out.size b11); have H3_11 := Aside0.mk (blk_kept H3_10.out K10 (fun h_ => h_)); have H7_11 := Aside0.mk (blk_kept H7_10.out K10 (fun h_ => h_)); have O1_0_11 := Aside0.mk (Kd.R_kept O1_0_10.out K10 (fun _ _ h_ => h_)); have O3_0_11 := Aside0.mk (Kd.R_kept O3_0_10.out K10 (fun _ _ h_ => h_)); have O6_0_11 := Aside0.mk (Kd.R_kept O6_0_10.out K10 (fun _ _ h_ => h_)); clear b11; clear K10 HB10 H3_10 H7_10 O1_0_10 O3_0_10 O6_0_10))
  go_ret
  exact ⟨rfl, HB11.out⟩

end Go.Proofs.YtkghgjehjchajaaDoor.PFnExactChooseFsinfo
