-- Written by a program of this session (patch_print.py over the kit print)
import Derived.Test.YtkghgjehjchajaaPFnExactEncodeTablex0
import Derived.Test.YtkghgjehjchajaaPFnExactEncodeTablex11
import Derived.Test.YtkghgjehjchajaaPFnExactEncodeTablex12
namespace Go.Proofs.Ytkghgjehjchajaa.PFnExactEncodeTable
open Go.RowKit Go.Proofs.YtkghgjehjchajaaW.PrintWords Go.Proofs.YtkghgjehjchajaaW.PrintLast Go.Proofs.YtkghgjehjchajaaW.PrintMore
attribute [local go_sem] max2_int min2_int max_two min_two max_three min_three max_four min_four   -- for this text's walks alone
set_option linter.unusedVariables false
set_option linter.unusedSimpArgs false

open Go.Proofs.YtkghgjehjchajaaW Go.Proofs.YtkghgjehjchajaaW.PrintHand Go.Proofs.YtkghgjehjchajaaW.PrintHx
/-! ### impl_EncodeTable: function 30 -/
open Go.Proofs.YtkghgjehjchajaaW.PrintLe Go.Proofs.YtkghgjehjchajaaW.PrintIno Go.Proofs.YtkghgjehjchajaaW.PrintTabl Go.Proofs.YtkghgjehjchajaaW.PrintTab2 Go.Proofs.YtkghgjehjchajaaW.PrintEqW Go.Proofs.YtkghgjehjchajaaW.PrintRaw
theorem impl_EncodeTable.cells {l : List (List Int)} (h : ∀ x ∈ l, x.length = 24) (j m : Nat) (hj : j ≤ m) :
    (tableBytesTo l j ++ List.replicate (128 * (m + 1 - j)) 0).take (128 * j) ++ inodeBytes (atI l j) ++ (tableBytesTo l j ++ List.replicate (128 * (m + 1 - j)) 0).drop (128 * j + 128) = tableBytesTo l (j + 1) ++ List.replicate (128 * (m + 1 - (j + 1))) 0 := by
  have hp := put_zeros (tableBytesTo l j) (inodeBytes (atI l j)) (128 * j) 0 (128 * (m + 1 - j)) (128 * j) 128 (tableBytesTo_length h j) (inodeBytes_length (atI_length h j)) (by omega) (by omega)
  rw [hp, tableBytesTo_succ, show 128 * (m + 1 - j) - 0 - 128 = 128 * (m + 1 - (j + 1)) by omega]
  rfl
theorem impl_EncodeTable.last {l : List (List Int)} (m k : Nat) (hk : k = min l.length (m + 1)) : tableBytesTo l k ++ List.replicate (128 * (m + 1 - k)) 0 = tableBytesTo l (m + 1) := by
  by_cases h : l.length ≤ m + 1
  · rw [Nat.min_eq_left h] at hk
    have hz := tableBytesTo_zeros l k (by omega) (m + 1 - k)
    rw [show k + (m + 1 - k) = m + 1 by omega] at hz
    exact hz.symm
  · rw [Nat.min_eq_right (by omega)] at hk
    rw [hk, Nat.sub_self, Nat.mul_zero, List.replicate_zero, List.append_nil]
def impl_EncodeTable.f (l0 : List (List Int)) : Option (List Int × Int) := some (if tableGood l0 = true then (tableBytes l0, 0) else ([], 7))
set_option maxHeartbeats 8000000 in
set_option maxRecDepth 100000 in
theorem impl_EncodeTable.calls (A0 : Option Addr) (c0 : Nat) (l0 : List (List Int)) (r1 : List Int) (r2 : Int) (w : World) (hr0 : Kd.C (PrintHx.wide 24) w A0 l0.length l0) (hc0 : l0.length ≤ c0) (h : impl_EncodeTable.f l0 = some (r1, r2)) :
    Calls Try.prog 30 #[.slice A0 l0.length c0] w fun e w' => ∃ v0_ : Value, e = .returned (.tuple #[v0_, .int .i64 r2]) ∧ Kd.R (Kd.int .u8) 5 w' w.heap.size (fun _ => True) v0_ r1 ∧ Below w.heap.size w w' := by
  unfold impl_EncodeTable.f at h
  have HH := Aside0.mk h
  have HW := Aside0.mk (wide_len hr0)
  have HR0 := Aside0.mk hr0
  have HC0 := Aside0.mk hc0
  obtain ⟨m, hm⟩ : ∃ m : Nat, (m : Int) = lastOf l0 := ⟨(lastOf l0).toNat, by have := lastOf_pos l0; omega⟩
  have HMM := Aside0.mk hm
  have HLEN := Aside0.mk (show l0.length ≤ 9223372036854775807 from hr0.2.1)
  have info5_ : (Try.prog.info? 5).map (fun i => (i.zero, i.size, i.bytes)) = some (some (.int .u8 0), 1, 1) := by kernel_rfl
  have Z42 : ∀ w, (zeroValue 42).run Try.prog w = .ok (.agg (nums .i64 (List.replicate 24 0)).toArray) w := fun _ => by kernel_rfl
  have HB := Aside0.mk (Below.refl w.heap.size w)
  clear hr0 hc0 h hm
  go_enter Try.func30, Try.ntmps30
  go_wp2
  (try simp only [Act.put, List.setIfInBounds_toArray, List.set_cons_succ, List.set_cons_zero])
  go_loopw [4, 5, 6, 13] (fun v4 v5 v6 v13 wr => ∃ (j : Nat) (u5 u6 : Value), u5 = v5 ∧ u6 = v6 ∧ v13 = .int .i64 (j : Int) ∧ v4 = .int .i64 (kOf l0 j) ∧ Aside0 (j ≤ l0.length) ∧ Aside0 (∀ i, i < j → inodeGood (l0.getD i []) = true) ∧ Aside0 (Below w.heap.size w wr)) (fun _ _ _ v13 _ => l0.length - (intOf v13).toNat)
  case atStart => exact ⟨0, _, _, rfl, rfl, rfl, by rw [kOf_zero], ⟨Nat.zero_le _⟩, ⟨fun i hi => absurd hi (by omega)⟩, HB⟩
  case round =>
    clear HB
    obtain ⟨j, v5, v6, rfl, rfl, rfl, rfl, hj, HG, HB⟩ := hrel
    obtain ⟨kj, hkj⟩ : ∃ kj, kj = kOf l0 j := ⟨_, rfl⟩
    rw [← hkj]
    have HKJ := Aside0.mk hkj
    clear hkj
    by_cases c9 : j < l0.length
    · have c9b0 : decide ((j : Int) < (l0.length : Int)) = true := decide_eq_true (by omega)
      have c9b1 : decide (j < l0.length) = true := decide_eq_true c9
      have q3 : ((j : Int) < (l0.length : Int)) = True := eq_true (by omega)
      have q4 : (0 ≤ (j : Int)) = True := eq_true (by omega)
      have q5 : (j < l0.length) = True := eq_true c9
      obtain ⟨ad, ea, hl, hc⟩ := wide_at (Kd.C_below HR0.out HB.out) j c9
      subst ea
      obtain ⟨x, hx⟩ : ∃ x, x = l0.getD j [] := ⟨_, rfl⟩
      rw [← hx] at hl hc
      obtain ⟨x0, hx0⟩ : ∃ x0, x0 = x.getD 0 0 := ⟨_, rfl⟩
      have HX0 := Aside0.mk hx0
      have HX := Aside0.mk hx
      have HL := Aside0.mk hl
      have HC := Aside0.mk hc
      have C9 := Aside0.mk c9
      obtain ⟨sj, Szj⟩ : ∃ s, Aside0 (wr.heap.size = s) := ⟨_, ⟨rfl⟩⟩
      have hle_ : w.heap.size ≤ sj := by rw [← Szj.out]; exact HB.out.size
      clear hx hx0 hl hc c9
      obtain ⟨b, hb⟩ : ∃ b, b = inodeGood x := ⟨_, rfl⟩
      have HG1 := Aside0.mk (show impl_Inode_right.f x = some b by rw [hb]; rfl)
      have HGB := Aside0.mk hb
      clear hb
      cases b with
      | false =>
        go_wp2_with (first | ((with_reducible refine gate_dst (N := 17) rfl ?_); refine hx_load_at rfl 42 (.tmp 16) rfl (ad.add (j * 24)) rfl x 24 Try.underlying42 rfl (by kernel_rfl) HL.out (fun i hi => by rw [Addr.add_add]; exact HC.out i hi) ?_) | ((with_reducible refine gate_dst (N := 6) rfl ?_); refine hx_alloc rfl 6 rfl 42 rfl Szj (.agg (nums .i64 (List.replicate 24 0)).toArray) (nums .i64 (List.replicate 24 0)).toArray Z42 rfl ?_; intro w2 s2 Ls2 Ss2 b_ g_; have HA := Aside0.mk g_; have HB2 := Aside0.mk (below_then HB.out HB.out.size b_); clear b_ g_ HB) | ((with_reducible refine gate_store (t := 42) (p := 6) (v := .tmp 17) rfl ?_); refine hx_store rfl rfl 42 (.tmp 6) (.tmp 17) rfl sj 24 rfl (nums .i64 x).toArray rfl (by kernel_rfl) (nums_size _ _ _ HL.out) (nums_one _ _) HA.out (by simp [nums]) ?_; intro w3 t_ gg_; have HA3 := Aside0.mk gg_; have HB3 := Aside0.mk (t_.below HB2.out (by omega)); clear t_ gg_ HA HB2) | ((with_reducible refine gate_dst (N := 18) rfl ?_); refine hx_load rfl 42 (.tmp 6) rfl sj 24 rfl Try.underlying42 rfl (by kernel_rfl) HA3.out (nums_size _ _ _ HL.out) ?_) | ((with_reducible refine gate_dst (N := 19) rfl ?_); refine goesL_ (some 19) rfl rfl Try.func52 (by kernel_rfl) rfl #[.agg (nums .i64 x).toArray] rfl (by (try simp only [List.map_toArray, List.map_cons, List.map_nil]); first | done | rfl) ?_; refine (impl_Inode_right.calls x HL.out _ _ HG1.out).mono ?_; rintro e_ w4 ⟨rfl, b_⟩; refine ⟨_, rfl, ?_⟩; have HB4 := Aside0.mk (below_then HB3.out HB3.out.size b_); have HA4 := Aside0.mk (blk_below HA3.out b_); have c0_ : w4.cell? ⟨sj, 0, none⟩ = some (.int .i64 x0) := (by have h_ := row_cell HA4.out 0 (by rw [HL.out]; decide); rw [← HX0.out] at h_; exact h_); clear b_ HB3 HA3))
        go_ret2
        have e_ : tableGood l0 = false := by unfold tableGood; rw [allGood_not C9.out (by rw [← HX.out]; exact HGB.out.symm)]; rfl
        have h_ := HH.out
        rw [e_] at h_
        simp only [Bool.false_eq_true, if_false, Option.some.injEq, Prod.mk.injEq] at h_
        obtain ⟨rfl, rfl⟩ := h_
        exact ⟨_, rfl, Kd.R_nil _ _ _ _ _, HB4.out⟩
      | true =>
        by_cases c23 : x0 = 0
        · have c23b : (x0 != 0) = false := by rw [c23]; rfl
          have HK := Aside0.mk (show kOf l0 (j + 1) = kj by rw [HKJ.out]; exact kOf_skip (by rw [← HX.out, ← HX0.out]; exact c23))
          clear c23
          go_wp2_with (first | ((with_reducible refine gate_dst (N := 17) rfl ?_); refine hx_load_at rfl 42 (.tmp 16) rfl (ad.add (j * 24)) rfl x 24 Try.underlying42 rfl (by kernel_rfl) HL.out (fun i hi => by rw [Addr.add_add]; exact HC.out i hi) ?_) | ((with_reducible refine gate_dst (N := 6) rfl ?_); refine hx_alloc rfl 6 rfl 42 rfl Szj (.agg (nums .i64 (List.replicate 24 0)).toArray) (nums .i64 (List.replicate 24 0)).toArray Z42 rfl ?_; intro w2 s2 Ls2 Ss2 b_ g_; have HA := Aside0.mk g_; have HB2 := Aside0.mk (below_then HB.out HB.out.size b_); clear b_ g_ HB) | ((with_reducible refine gate_store (t := 42) (p := 6) (v := .tmp 17) rfl ?_); refine hx_store rfl rfl 42 (.tmp 6) (.tmp 17) rfl sj 24 rfl (nums .i64 x).toArray rfl (by kernel_rfl) (nums_size _ _ _ HL.out) (nums_one _ _) HA.out (by simp [nums]) ?_; intro w3 t_ gg_; have HA3 := Aside0.mk gg_; have HB3 := Aside0.mk (t_.below HB2.out (by omega)); clear t_ gg_ HA HB2) | ((with_reducible refine gate_dst (N := 18) rfl ?_); refine hx_load rfl 42 (.tmp 6) rfl sj 24 rfl Try.underlying42 rfl (by kernel_rfl) HA3.out (nums_size _ _ _ HL.out) ?_) | ((with_reducible refine gate_dst (N := 19) rfl ?_); refine goesL_ (some 19) rfl rfl Try.func52 (by kernel_rfl) rfl #[.agg (nums .i64 x).toArray] rfl (by (try simp only [List.map_toArray, List.map_cons, List.map_nil]); first | done | rfl) ?_; refine (impl_Inode_right.calls x HL.out _ _ HG1.out).mono ?_; rintro e_ w4 ⟨rfl, b_⟩; refine ⟨_, rfl, ?_⟩; have HB4 := Aside0.mk (below_then HB3.out HB3.out.size b_); have HA4 := Aside0.mk (blk_below HA3.out b_); have c0_ : w4.cell? ⟨sj, 0, none⟩ = some (.int .i64 x0) := (by have h_ := row_cell HA4.out 0 (by rw [HL.out]; decide); rw [← HX0.out] at h_; exact h_); clear b_ HB3 HA3))
          go_roundw
          case rel => exact ⟨j + 1, _, _, rfl, rfl, by rw [show wrap64 ((j : Int) + 1) = ((j + 1 : Nat) : Int) by (have := HLEN.out; have := C9.out; unfold wrap64; omega)], by rw [HK.out], ⟨by have := C9.out; omega⟩, ⟨fun i hi => by
            by_cases hij : i = j
            · rw [hij, ← HX.out]; exact HGB.out.symm
            · exact HG.out i (by omega)⟩, HB4⟩
          case measure =>
            rw [show wrap64 ((j : Int) + 1) = ((j + 1 : Nat) : Int) by (have := HLEN.out; have := C9.out; unfold wrap64; omega)]
            simp only [intOf, Int.toNat_natCast]
            have := C9.out
            omega
        · have c23b : (x0 != 0) = true := bne_iff_ne.2 c23
          have HK := Aside0.mk (show kOf l0 (j + 1) = max kj (j : Int) by rw [HKJ.out]; exact kOf_use (by rw [← HX.out, ← HX0.out]; exact c23))
          clear c23
          go_wp2_with (first | ((with_reducible refine gate_dst (N := 17) rfl ?_); refine hx_load_at rfl 42 (.tmp 16) rfl (ad.add (j * 24)) rfl x 24 Try.underlying42 rfl (by kernel_rfl) HL.out (fun i hi => by rw [Addr.add_add]; exact HC.out i hi) ?_) | ((with_reducible refine gate_dst (N := 6) rfl ?_); refine hx_alloc rfl 6 rfl 42 rfl Szj (.agg (nums .i64 (List.replicate 24 0)).toArray) (nums .i64 (List.replicate 24 0)).toArray Z42 rfl ?_; intro w2 s2 Ls2 Ss2 b_ g_; have HA := Aside0.mk g_; have HB2 := Aside0.mk (below_then HB.out HB.out.size b_); clear b_ g_ HB) | ((with_reducible refine gate_store (t := 42) (p := 6) (v := .tmp 17) rfl ?_); refine hx_store rfl rfl 42 (.tmp 6) (.tmp 17) rfl sj 24 rfl (nums .i64 x).toArray rfl (by kernel_rfl) (nums_size _ _ _ HL.out) (nums_one _ _) HA.out (by simp [nums]) ?_; intro w3 t_ gg_; have HA3 := Aside0.mk gg_; have HB3 := Aside0.mk (t_.below HB2.out (by omega)); clear t_ gg_ HA HB2) | ((with_reducible refine gate_dst (N := 18) rfl ?_); refine hx_load rfl 42 (.tmp 6) rfl sj 24 rfl Try.underlying42 rfl (by kernel_rfl) HA3.out (nums_size _ _ _ HL.out) ?_) | ((with_reducible refine gate_dst (N := 19) rfl ?_); refine goesL_ (some 19) rfl rfl Try.func52 (by kernel_rfl) rfl #[.agg (nums .i64 x).toArray] rfl (by (try simp only [List.map_toArray, List.map_cons, List.map_nil]); first | done | rfl) ?_; refine (impl_Inode_right.calls x HL.out _ _ HG1.out).mono ?_; rintro e_ w4 ⟨rfl, b_⟩; refine ⟨_, rfl, ?_⟩; have HB4 := Aside0.mk (below_then HB3.out HB3.out.size b_); have HA4 := Aside0.mk (blk_below HA3.out b_); have c0_ : w4.cell? ⟨sj, 0, none⟩ = some (.int .i64 x0) := (by have h_ := row_cell HA4.out 0 (by rw [HL.out]; decide); rw [← HX0.out] at h_; exact h_); clear b_ HB3 HA3) | ((with_reducible refine gate_dst (N := 26) rfl ?_); refine hx_max rfl (.tmp 24) (.tmp 25) _ rfl kj (j : Int) rfl rfl (max kj (j : Int)) (by split <;> omega) ?_))
          go_roundw
          case rel => exact ⟨j + 1, _, _, rfl, rfl, by rw [show wrap64 ((j : Int) + 1) = ((j + 1 : Nat) : Int) by (have := HLEN.out; have := C9.out; unfold wrap64; omega)], by rw [HK.out], ⟨by have := C9.out; omega⟩, ⟨fun i hi => by
            by_cases hij : i = j
            · rw [hij, ← HX.out]; exact HGB.out.symm
            · exact HG.out i (by omega)⟩, HB4⟩
          case measure =>
            rw [show wrap64 ((j : Int) + 1) = ((j + 1 : Nat) : Int) by (have := HLEN.out; have := C9.out; unfold wrap64; omega)]
            simp only [intOf, Int.toNat_natCast]
            have := C9.out
            omega
    · obtain rfl : j = l0.length := by have := hj.out; omega
      have c9b0 : decide ((l0.length : Int) < (l0.length : Int)) = false := decide_eq_false (by omega)
      have c9b1 : decide (l0.length < l0.length) = false := decide_eq_false c9
      clear c9
      obtain rfl : kj = (m : Int) := by rw [HKJ.out, kOf_all, HMM.out]
      have HAG := Aside0.mk (allGood_of HG.out)
      by_cases c17 : 0 < l0.length
      · have c17b0 : decide ((0 : Int) < (l0.length : Int)) = true := decide_eq_true (by omega)
        have c17b1 : decide (0 < l0.length) = true := decide_eq_true c17
        have q3 : ((0 : Int) < (l0.length : Int)) = True := eq_true (by omega)
        have q5 : (0 < l0.length) = True := eq_true c17
        obtain ⟨ad, ea, hl, hc⟩ := wide_at (Kd.C_below HR0.out HB.out) 0 c17
        subst ea
        obtain ⟨x, hx⟩ : ∃ x, x = l0.getD 0 [] := ⟨_, rfl⟩
        obtain ⟨x0, hx0⟩ : ∃ x0, x0 = x.getD 0 0 := ⟨_, rfl⟩
        rw [← hx] at hl hc
        have hc0 := hc 0 (by decide)
        rw [← hx0] at hc0
        replace hc0 : wr.cell? ad = some (.int .i64 x0) := by simpa [Addr.add_zero'] using hc0
        have hk0 : x0 = 0 ↔ x = zInode := by rw [hx0]; exact good_kind (by rw [hx]; exact HG.out 0 c17)
        have HX := Aside0.mk hx
        have HK0 := Aside0.mk hk0
        clear hx hl hc c17 hx0 hk0
        by_cases c24 : x0 = 0
        · have BE : (x0 != 0) = false := by rw [c24]; rfl
          have HFZ := Aside0.mk (show firstZero l0 = true by unfold firstZero; rw [← HX.out, decide_eq_true (HK0.out.1 c24)]; simp)
          clear c24
          by_cases c29 : m ≤ 1000
          · have c29b0 : decide ((1000 : Int) < (m : Int)) = false := decide_eq_false (by omega)
            have c29b1 : decide (1000 < m) = false := decide_eq_false (by omega)
            have HTG := Aside0.mk (show tableGood l0 = true by unfold tableGood; rw [HAG.out, HFZ.out, decide_eq_true (show lastOf l0 ≤ 1000 by rw [← HMM.out]; omega)]; rfl)
            have HM := Aside0.mk c29
            clear c29
            have h_ := HH.out
            rw [HTG.out] at h_
            simp only [if_true, Option.some.injEq, Prod.mk.injEq] at h_
            obtain ⟨rfl, rfl⟩ := h_
            have HRES := Aside0.mk (show tableBytes l0 = tableBytesTo l0 (m + 1) by unfold tableBytes; rw [show (lastOf l0).toNat = m by have := HMM.out; omega])
            obtain ⟨s1, Sz1⟩ : ∃ s, Aside0 (wr.heap.size = s) := ⟨_, ⟨rfl⟩⟩
            have hs1 : w.heap.size ≤ s1 := by rw [← Sz1.out]; exact HB.out.size
            obtain ⟨mn, hmn⟩ : ∃ mn, mn = min l0.length (m + 1) := ⟨_, rfl⟩
            have HMN := Aside0.mk hmn
            clear hmn
            go_wp2_with (first | ((with_reducible refine gate_dst (N := 43) rfl ?_); refine hx_addn rfl 3 (.tmp 42) _ rfl m 1 rfl rfl (by have := HM.out; omega) ?_; intro n1 E1) | ((with_reducible refine gate_dst (N := 44) rfl ?_); refine hx_muln rfl 3 _ (.tmp 43) rfl 128 n1 rfl rfl (by have := E1.out; have := HM.out; omega) ?_; intro n2 E2) | ((with_reducible refine gate_dst (N := 45) rfl ?_); refine make_num rfl (N := 45) rfl n2 5 .u8 Sz1 ?hr ?_; (case hr => exact make_u8 25 5 n2 _ _ rfl rfl rfl Try.underlying25 info5_ (by have := E2.out; have := E1.out; have := HM.out; omega)); intro w2 s2 L2 Sz2 b_ g_; have HS2 := Aside0.mk g_; have HB2 := Aside0.mk (below_then HB.out HB.out.size b_); clear b_ g_ HB) | ((with_reducible refine gate_dst (N := 49) rfl ?_); refine hx_addn rfl 3 (.tmp 48) _ rfl m 1 rfl rfl (by have := HM.out; omega) ?_; intro n3 E3) | ((with_reducible refine gate_dst (N := 50) rfl ?_); refine hx_min rfl (.tmp 47) (.tmp 49) _ rfl (l0.length : Int) (n3 : Int) rfl rfl (mn : Int) (by have h1_ := HMN.out; have h2_ := E3.out; split <;> omega) ?_))
            (try simp only [Act.put, List.setIfInBounds_toArray, List.set_cons_succ, List.set_cons_zero])
            go_loopw [8, 9, 10, 51] (fun v8 v9 v10 v51 wr => ∃ (j : Nat) (u8 u9 u10 : Value), u8 = v8 ∧ u9 = v9 ∧ u10 = v10 ∧ v51 = .int .i64 (j : Int) ∧ Aside0 (j ≤ mn) ∧ Aside0 (wr.heap[s1]? = some (.cells (nums .u8 (tableBytesTo l0 j ++ List.replicate (128 * (m + 1 - j)) 0)).toArray 5 (0, 0))) ∧ Aside0 (Below w.heap.size w wr)) (fun _ _ _ v51 _ => mn - (intOf v51).toNat)
            case atStart => exact ⟨0, _, _, _, rfl, rfl, rfl, rfl, ⟨Nat.zero_le _⟩, ⟨by rw [show tableBytesTo l0 0 = [] from rfl, List.nil_append, show 128 * (m + 1 - 0) = n2 by have := E2.out; have := E1.out; omega]; exact HS2.out⟩, HB2⟩
            case round =>
              clear HS2 HB2
              obtain ⟨j, v8, v9, v10, rfl, rfl, rfl, rfl, hj, HS, HB⟩ := hrel
              by_cases c52 : j < mn
              · have c52b0 : decide ((j : Int) < (mn : Int)) = true := decide_eq_true (by omega)
                have c52b1 : decide (j < mn) = true := decide_eq_true c52
                have hjl : j < l0.length := by have := HMN.out; omega
                have hjm : j ≤ m := by have := HMN.out; omega
                have q3 : ((j : Int) < (l0.length : Int)) = True := eq_true (by omega)
                have q4 : (0 ≤ (j : Int)) = True := eq_true (by omega)
                have q5 : (j < l0.length) = True := eq_true hjl
                obtain ⟨ad, ea, hl, hc⟩ := wide_at (Kd.C_below HR0.out HB.out) j hjl
                (first | subst ea | cases ea)
                obtain ⟨x, hx⟩ : ∃ x, x = l0.getD j [] := ⟨_, rfl⟩
                rw [← hx] at hl hc
                have HX := Aside0.mk (show x = atI l0 j by rw [hx]; unfold atI; rw [if_pos hjl])
                have HL := Aside0.mk hl
                have HC := Aside0.mk hc
                have HXB := Aside0.mk (show impl_EncodeInode.f x = some (inodeBytes x, 0) by unfold impl_EncodeInode.f; rw [if_pos (by rw [HX.out]; exact atI_good HAG.out j)])
                have HYL := Aside0.mk (inodeBytes_length hl)
                have C52 := Aside0.mk c52
                have HJM := Aside0.mk hjm
                clear hx hl hc c52 hjl hjm
                obtain ⟨Q, hq⟩ : ∃ Q, Q = tableBytesTo l0 j ++ List.replicate (128 * (m + 1 - j)) 0 := ⟨_, rfl⟩
                rw [← hq] at HS
                have HQL := Aside0.mk (show Q.length = n2 by rw [hq, List.length_append, List.length_replicate, tableBytesTo_length HW.out]; have := E2.out; have := E1.out; have := HJM.out; omega)
                have HQ := Aside0.mk hq
                clear hq
                go_wp2_with (first | ((with_reducible refine gate_dst (N := 58) rfl ?_); refine hx_load_at rfl 42 (.tmp 57) rfl (ad.add (j * 24)) rfl x 24 Try.underlying42 rfl (by kernel_rfl) HL.out (fun i hi => by rw [Addr.add_add]; exact HC.out i hi) ?_) | ((with_reducible refine gate_dst (N := 59) rfl ?_); refine goesL_ (some 59) rfl rfl Try.func23 (by kernel_rfl) rfl #[.agg (nums .i64 x).toArray] rfl (by (try simp only [List.map_toArray, List.map_cons, List.map_nil]); first | done | rfl) ?_; refine (impl_EncodeInode.calls x HL.out (inodeBytes x) 0 _ HXB.out).mono ?_; rintro e_ w3 ⟨v59, rfl, R_, b_⟩; obtain ⟨A59, c59, rfl⟩ := Kd.R_slice R_; refine ⟨_, rfl, ?_⟩; have O59 := Aside0.mk R_; have HB3 := Aside0.mk (below_then HB.out HB.out.size b_); have HS3 := Aside0.mk (blk_below HS.out b_); clear R_ b_ HB HS) | ((with_reducible refine gate_dst (N := 64) rfl ?_); refine hx_muln rfl 3 (.tmp 63) _ rfl j 128 rfl rfl (by have := HJM.out; have := HM.out; omega) ?_; intro of_ EO) | ((with_reducible refine gate_dst (N := 65) rfl ?_); refine hx_cut rfl 25 5 (.tmp 62) (.tmp 64) rfl s1 n2 n2 of_ rfl rfl Try.underlying25 (by kernel_rfl) (by have := EO.out; have := E2.out; have := E1.out; have := HJM.out; omega) (by have := EO.out; have := E2.out; have := E1.out; have := HJM.out; omega) ?_) | ((with_reducible refine gate_dst (N := 67) rfl ?_); refine cp_num rfl (.tmp 65) (.tmp 66) 25 25 rfl 5 Try.underlying25 (by kernel_rfl) s1 of_ (n2 - of_) (n2 - of_) A59 c59 (inodeBytes x) Q rfl rfl HS3.out (by rw [HYL.out]; decide) (by rw [HYL.out]; have := EO.out; have := E2.out; have := E1.out; have := HJM.out; omega) (by rw [HYL.out, HQL.out]; have := EO.out; have := E2.out; have := E1.out; have := HJM.out; omega) (Kd.R_reads' O59.out).2.2 ?_; intro w4 t_ g_; have HS4 := Aside0.mk g_; have HB4 := Aside0.mk (t_.below HB3.out hs1); clear t_ g_ HB3 HS3))
                go_roundw
                case rel => exact ⟨j + 1, _, _, _, rfl, rfl, rfl, by rw [show wrap64 ((j : Int) + 1) = ((j + 1 : Nat) : Int) by (have := HM.out; have := HJM.out; unfold wrap64; omega)], ⟨by have := C52.out; omega⟩, ⟨by
                  have h_ := HS4.out
                  rw [HYL.out, HQ.out, HX.out, show of_ = 128 * j by rw [EO.out]; omega, impl_EncodeTable.cells HW.out j m HJM.out] at h_
                  exact h_⟩, HB4⟩
                case measure =>
                  rw [show wrap64 ((j : Int) + 1) = ((j + 1 : Nat) : Int) by (have := HM.out; have := HJM.out; unfold wrap64; omega)]
                  simp only [intOf, Int.toNat_natCast]
                  have := C52.out
                  omega
              · obtain rfl : j = mn := by have := hj.out; omega
                have c52b0 : decide ((j : Int) < (j : Int)) = false := decide_eq_false (by omega)
                have c52b1 : decide (j < j) = false := decide_eq_false (by omega)
                clear c52
                go_wp2
                go_ret2
                have h_ := HS.out
                rw [impl_EncodeTable.last m j HMN.out, ← HRES.out] at h_
                have hl_ : (tableBytes l0).length = n2 := by rw [HRES.out, tableBytesTo_length HW.out]; have := E2.out; have := E1.out; omega
                have ho := own_blk (B := w.heap.size) h_ hs1 (by rw [hl_]; have := E2.out; have := E1.out; have := HM.out; omega)
                rw [hl_] at ho
                exact ⟨_, rfl, ho, HB.out⟩
          · have c29b0 : decide ((1000 : Int) < (m : Int)) = true := decide_eq_true (by omega)
            have c29b1 : decide (1000 < m) = true := decide_eq_true (by omega)
            have HTG := Aside0.mk (show tableGood l0 = false by unfold tableGood; rw [decide_eq_false (show ¬ lastOf l0 ≤ 1000 by rw [← HMM.out]; omega)]; simp)
            clear c29
            go_wp2
            go_ret2
            have h_ := HH.out
            rw [HTG.out] at h_
            simp only [Bool.false_eq_true, if_false, Option.some.injEq, Prod.mk.injEq] at h_
            obtain ⟨rfl, rfl⟩ := h_
            exact ⟨_, rfl, Kd.R_nil _ _ _ _ _, HB.out⟩
        · have BE : (x0 != 0) = true := bne_iff_ne.2 c24
          have HFZ := Aside0.mk (show firstZero l0 = false by unfold firstZero; rw [← HX.out, decide_eq_false (show ¬ x = zInode by intro h_; exact c24 (HK0.out.2 h_)), decide_eq_false (show ¬ l0.length = 0 by have := of_eq_true q5; omega)]; rfl)
          clear c24
          go_wp2
          go_ret2
          have e_ : tableGood l0 = false := by unfold tableGood; rw [HFZ.out]; simp
          have h_ := HH.out
          rw [e_] at h_
          simp only [Bool.false_eq_true, if_false, Option.some.injEq, Prod.mk.injEq] at h_
          obtain ⟨rfl, rfl⟩ := h_
          exact ⟨_, rfl, Kd.R_nil _ _ _ _ _, HB.out⟩
      · have c17b0 : decide ((0 : Int) < (l0.length : Int)) = false := decide_eq_false (by omega)
        have c17b1 : decide (0 < l0.length) = false := decide_eq_false c17
        have HFZ := Aside0.mk (show firstZero l0 = true by unfold firstZero; rw [decide_eq_true (show l0.length = 0 by omega)]; rfl)
        clear c17
        by_cases c29 : m ≤ 1000
        · have c29b0 : decide ((1000 : Int) < (m : Int)) = false := decide_eq_false (by omega)
          have c29b1 : decide (1000 < m) = false := decide_eq_false (by omega)
          have HTG := Aside0.mk (show tableGood l0 = true by unfold tableGood; rw [HAG.out, HFZ.out, decide_eq_true (show lastOf l0 ≤ 1000 by rw [← HMM.out]; omega)]; rfl)
          have HM := Aside0.mk c29
          clear c29
          have h_ := HH.out
          rw [HTG.out] at h_
          simp only [if_true, Option.some.injEq, Prod.mk.injEq] at h_
          obtain ⟨rfl, rfl⟩ := h_
          have HRES := Aside0.mk (show tableBytes l0 = tableBytesTo l0 (m + 1) by unfold tableBytes; rw [show (lastOf l0).toNat = m by have := HMM.out; omega])
          obtain ⟨s1, Sz1⟩ : ∃ s, Aside0 (wr.heap.size = s) := ⟨_, ⟨rfl⟩⟩
          have hs1 : w.heap.size ≤ s1 := by rw [← Sz1.out]; exact HB.out.size
          obtain ⟨mn, hmn⟩ : ∃ mn, mn = min l0.length (m + 1) := ⟨_, rfl⟩
          have HMN := Aside0.mk hmn
          clear hmn
          go_wp2_with (first | ((with_reducible refine gate_dst (N := 43) rfl ?_); refine hx_addn rfl 3 (.tmp 42) _ rfl m 1 rfl rfl (by have := HM.out; omega) ?_; intro n1 E1) | ((with_reducible refine gate_dst (N := 44) rfl ?_); refine hx_muln rfl 3 _ (.tmp 43) rfl 128 n1 rfl rfl (by have := E1.out; have := HM.out; omega) ?_; intro n2 E2) | ((with_reducible refine gate_dst (N := 45) rfl ?_); refine make_num rfl (N := 45) rfl n2 5 .u8 Sz1 ?hr ?_; (case hr => exact make_u8 25 5 n2 _ _ rfl rfl rfl Try.underlying25 info5_ (by have := E2.out; have := E1.out; have := HM.out; omega)); intro w2 s2 L2 Sz2 b_ g_; have HS2 := Aside0.mk g_; have HB2 := Aside0.mk (below_then HB.out HB.out.size b_); clear b_ g_ HB) | ((with_reducible refine gate_dst (N := 49) rfl ?_); refine hx_addn rfl 3 (.tmp 48) _ rfl m 1 rfl rfl (by have := HM.out; omega) ?_; intro n3 E3) | ((with_reducible refine gate_dst (N := 50) rfl ?_); refine hx_min rfl (.tmp 47) (.tmp 49) _ rfl (l0.length : Int) (n3 : Int) rfl rfl (mn : Int) (by have h1_ := HMN.out; have h2_ := E3.out; split <;> omega) ?_))
          (try simp only [Act.put, List.setIfInBounds_toArray, List.set_cons_succ, List.set_cons_zero])
          go_loopw [8, 9, 10, 51] (fun v8 v9 v10 v51 wr => ∃ (j : Nat) (u8 u9 u10 : Value), u8 = v8 ∧ u9 = v9 ∧ u10 = v10 ∧ v51 = .int .i64 (j : Int) ∧ Aside0 (j ≤ mn) ∧ Aside0 (wr.heap[s1]? = some (.cells (nums .u8 (tableBytesTo l0 j ++ List.replicate (128 * (m + 1 - j)) 0)).toArray 5 (0, 0))) ∧ Aside0 (Below w.heap.size w wr)) (fun _ _ _ v51 _ => mn - (intOf v51).toNat)
          case atStart => exact ⟨0, _, _, _, rfl, rfl, rfl, rfl, ⟨Nat.zero_le _⟩, ⟨by rw [show tableBytesTo l0 0 = [] from rfl, List.nil_append, show 128 * (m + 1 - 0) = n2 by have := E2.out; have := E1.out; omega]; exact HS2.out⟩, HB2⟩
          case round =>
            clear HS2 HB2
            obtain ⟨j, v8, v9, v10, rfl, rfl, rfl, rfl, hj, HS, HB⟩ := hrel
            by_cases c52 : j < mn
            · have c52b0 : decide ((j : Int) < (mn : Int)) = true := decide_eq_true (by omega)
              have c52b1 : decide (j < mn) = true := decide_eq_true c52
              have hjl : j < l0.length := by have := HMN.out; omega
              have hjm : j ≤ m := by have := HMN.out; omega
              have q3 : ((j : Int) < (l0.length : Int)) = True := eq_true (by omega)
              have q4 : (0 ≤ (j : Int)) = True := eq_true (by omega)
              have q5 : (j < l0.length) = True := eq_true hjl
              obtain ⟨ad, ea, hl, hc⟩ := wide_at (Kd.C_below HR0.out HB.out) j hjl
              (first | subst ea | cases ea)
              obtain ⟨x, hx⟩ : ∃ x, x = l0.getD j [] := ⟨_, rfl⟩
              rw [← hx] at hl hc
              have HX := Aside0.mk (show x = atI l0 j by rw [hx]; unfold atI; rw [if_pos hjl])
              have HL := Aside0.mk hl
              have HC := Aside0.mk hc
              have HXB := Aside0.mk (show impl_EncodeInode.f x = some (inodeBytes x, 0) by unfold impl_EncodeInode.f; rw [if_pos (by rw [HX.out]; exact atI_good HAG.out j)])
              have HYL := Aside0.mk (inodeBytes_length hl)
              have C52 := Aside0.mk c52
              have HJM := Aside0.mk hjm
              clear hx hl hc c52 hjl hjm
              obtain ⟨Q, hq⟩ : ∃ Q, Q = tableBytesTo l0 j ++ List.replicate (128 * (m + 1 - j)) 0 := ⟨_, rfl⟩
              rw [← hq] at HS
              have HQL := Aside0.mk (show Q.length = n2 by rw [hq, List.length_append, List.length_replicate, tableBytesTo_length HW.out]; have := E2.out; have := E1.out; have := HJM.out; omega)
              have HQ := Aside0.mk hq
              clear hq
              go_wp2_with (first | ((with_reducible refine gate_dst (N := 58) rfl ?_); refine hx_load_at rfl 42 (.tmp 57) rfl (ad.add (j * 24)) rfl x 24 Try.underlying42 rfl (by kernel_rfl) HL.out (fun i hi => by rw [Addr.add_add]; exact HC.out i hi) ?_) | ((with_reducible refine gate_dst (N := 59) rfl ?_); refine goesL_ (some 59) rfl rfl Try.func23 (by kernel_rfl) rfl #[.agg (nums .i64 x).toArray] rfl (by (try simp only [List.map_toArray, List.map_cons, List.map_nil]); first | done | rfl) ?_; refine (impl_EncodeInode.calls x HL.out (inodeBytes x) 0 _ HXB.out).mono ?_; rintro e_ w3 ⟨v59, rfl, R_, b_⟩; obtain ⟨A59, c59, rfl⟩ := Kd.R_slice R_; refine ⟨_, rfl, ?_⟩; have O59 := Aside0.mk R_; have HB3 := Aside0.mk (below_then HB.out HB.out.size b_); have HS3 := Aside0.mk (blk_below HS.out b_); clear R_ b_ HB HS) | ((with_reducible refine gate_dst (N := 64) rfl ?_); refine hx_muln rfl 3 (.tmp 63) _ rfl j 128 rfl rfl (by have := HJM.out; have := HM.out; omega) ?_; intro of_ EO) | ((with_reducible refine gate_dst (N := 65) rfl ?_); refine hx_cut rfl 25 5 (.tmp 62) (.tmp 64) rfl s1 n2 n2 of_ rfl rfl Try.underlying25 (by kernel_rfl) (by have := EO.out; have := E2.out; have := E1.out; have := HJM.out; omega) (by have := EO.out; have := E2.out; have := E1.out; have := HJM.out; omega) ?_) | ((with_reducible refine gate_dst (N := 67) rfl ?_); refine cp_num rfl (.tmp 65) (.tmp 66) 25 25 rfl 5 Try.underlying25 (by kernel_rfl) s1 of_ (n2 - of_) (n2 - of_) A59 c59 (inodeBytes x) Q rfl rfl HS3.out (by rw [HYL.out]; decide) (by rw [HYL.out]; have := EO.out; have := E2.out; have := E1.out; have := HJM.out; omega) (by rw [HYL.out, HQL.out]; have := EO.out; have := E2.out; have := E1.out; have := HJM.out; omega) (Kd.R_reads' O59.out).2.2 ?_; intro w4 t_ g_; have HS4 := Aside0.mk g_; have HB4 := Aside0.mk (t_.below HB3.out hs1); clear t_ g_ HB3 HS3))
              go_roundw
              case rel => exact ⟨j + 1, _, _, _, rfl, rfl, rfl, by rw [show wrap64 ((j : Int) + 1) = ((j + 1 : Nat) : Int) by (have := HM.out; have := HJM.out; unfold wrap64; omega)], ⟨by have := C52.out; omega⟩, ⟨by
                have h_ := HS4.out
                rw [HYL.out, HQ.out, HX.out, show of_ = 128 * j by rw [EO.out]; omega, impl_EncodeTable.cells HW.out j m HJM.out] at h_
                exact h_⟩, HB4⟩
              case measure =>
                rw [show wrap64 ((j : Int) + 1) = ((j + 1 : Nat) : Int) by (have := HM.out; have := HJM.out; unfold wrap64; omega)]
                simp only [intOf, Int.toNat_natCast]
                have := C52.out
                omega
            · obtain rfl : j = mn := by have := hj.out; omega
              have c52b0 : decide ((j : Int) < (j : Int)) = false := decide_eq_false (by omega)
              have c52b1 : decide (j < j) = false := decide_eq_false (by omega)
              clear c52
              go_wp2
              go_ret2
              have h_ := HS.out
              rw [impl_EncodeTable.last m j HMN.out, ← HRES.out] at h_
              have hl_ : (tableBytes l0).length = n2 := by rw [HRES.out, tableBytesTo_length HW.out]; have := E2.out; have := E1.out; omega
              have ho := own_blk (B := w.heap.size) h_ hs1 (by rw [hl_]; have := E2.out; have := E1.out; have := HM.out; omega)
              rw [hl_] at ho
              exact ⟨_, rfl, ho, HB.out⟩
        · have c29b0 : decide ((1000 : Int) < (m : Int)) = true := decide_eq_true (by omega)
          have c29b1 : decide (1000 < m) = true := decide_eq_true (by omega)
          have HTG := Aside0.mk (show tableGood l0 = false by unfold tableGood; rw [decide_eq_false (show ¬ lastOf l0 ≤ 1000 by rw [← HMM.out]; omega)]; simp)
          clear c29
          go_wp2
          go_ret2
          have h_ := HH.out
          rw [HTG.out] at h_
          simp only [Bool.false_eq_true, if_false, Option.some.injEq, Prod.mk.injEq] at h_
          obtain ⟨rfl, rfl⟩ := h_
          exact ⟨_, rfl, Kd.R_nil _ _ _ _ _, HB.out⟩

open Go.Proofs.YtkghgjehjchajaaW Go.Proofs.YtkghgjehjchajaaW.PrintHand Go.Proofs.YtkghgjehjchajaaW.PrintHx
/-! ### laws_eqIntA12: function 49 -/
def laws_eqIntA12.f (a0 a1 : List Int) : Option Bool := if a0 = a1 then some true else none
set_option maxHeartbeats 4000000 in
theorem laws_eqIntA12.calls (a0 : List Int) (n0 : a0.length = 12) (a1 : List Int) (n1 : a1.length = 12) (r : Bool) (w : World) (h : laws_eqIntA12.f a0 a1 = some r) :
    Calls Try.prog 49 #[.agg (nums .i64 a0).toArray, .agg (nums .i64 a1).toArray] w fun e w' => e = .returned (.bool r) ∧ Below w.heap.size w w' := by
  unfold laws_eqIntA12.f at h
  by_cases he : a0 = a1
  case neg => rw [if_neg he] at h; cases h
  rw [if_pos he] at h
  obtain rfl := Option.some.inj h
  subst he
  have N_ := Aside0.mk n0
  clear n0 n1 h
  have HB0 : Aside0 (Below w.heap.size w w) := ⟨Below.refl _ _⟩
  obtain ⟨s0, Sz0⟩ : ∃ s0, Aside0 (w.heap.size = s0) := ⟨_, ⟨rfl⟩⟩
  go_enter Try.func49, Try.ntmps49
  go_wp2_with (first | ((with_reducible refine gate_dst (N := 2) rfl ?_); refine hx_box rfl 2 rfl 22 (.tmp 0) rfl Sz0 (.agg (nums .i64 a0).toArray) (nums .i64 a0).toArray rfl rfl ?_; intro w1 s1 L1 Sz1 b1 g_; have H0 := Aside0.mk g_; have HB1 := Aside0.mk (below_then HB0.out HB0.out.size b1); clear g_ HB0 b1) | ((with_reducible refine gate_dst (N := 3) rfl ?_); refine hx_box rfl 3 rfl 22 (.tmp 1) rfl Sz1 (.agg (nums .i64 a0).toArray) (nums .i64 a0).toArray rfl rfl ?_; intro w2 s2 L2 Sz2 b2 g_; have H1 := Aside0.mk g_; have H0 := Aside0.mk (blk_below H0.out b2); have HB2 := Aside0.mk (below_then HB1.out HB1.out.size b2); clear g_ HB1 b2))
  (try simp only [Act.put, List.setIfInBounds_toArray, List.set_cons_succ, List.set_cons_zero])
  go_loopw [5] (fun i wr => ∃ k : Nat, k ≤ 12 ∧ i = .int .i64 (k : Int) ∧ Aside0 (Below w.heap.size w wr) ∧ Aside0 (wr.heap[s0]? = some (.cells (nums .i64 a0).toArray 22 (0, 0))) ∧ Aside0 (wr.heap[s1]? = some (.cells (nums .i64 a0).toArray 22 (0, 0)))) (fun i _ => 12 - (intOf i).toNat)
  case atStart => exact ⟨0, by omega, rfl, HB2, H0, H1⟩
  case round =>
    obtain ⟨k, hk, rfl, hB, h0, h1⟩ := hrel
    by_cases hlt : k < 12
    · have c0 := row_cell h0.out k (by rw [N_.out]; exact hlt)
      have c1 := row_cell h1.out k (by rw [N_.out]; exact hlt)
      have hn : (a0.getD k 0 != a0.getD k 0) = false := by simp
      go_wp2
      go_quiet (fail)
      go_wp2
      go_roundw
      case rel => exact ⟨k + 1, by omega, by go_num, ⟨pw_below_drewN hB.out _⟩, ⟨blk_drewN h0.out _⟩, ⟨blk_drewN h1.out _⟩⟩
      case measure => simp [intOf]; omega
    · obtain rfl : k = 12 := by omega
      go_wp2
      go_ret
      exact ⟨rfl, hB.out⟩

open Go.Proofs.YtkghgjehjchajaaW Go.Proofs.YtkghgjehjchajaaW.PrintHand Go.Proofs.YtkghgjehjchajaaW.PrintHx
/-! ### laws_eqRoot: function 20 -/
def laws_eqRoot.f (a0 a1 : List Int) : Option Bool := if a0 = a1 then some true else none
set_option maxHeartbeats 8000000 in
set_option maxRecDepth 100000 in
theorem laws_eqRoot.calls (a0 : List Int) (n0 : a0.length = 15) (a1 : List Int) (n1 : a1.length = 15) (r : Bool) (w : World) (h : laws_eqRoot.f a0 a1 = some r) :
    Calls Try.prog 20 #[.agg (nums .i64 a0).toArray, .agg (nums .i64 a1).toArray] w fun e w' => e = .returned (.bool r) ∧ Below w.heap.size w w' := by
  unfold laws_eqRoot.f at h
  by_cases he : a0 = a1
  case neg => rw [if_neg he] at h; cases h
  rw [if_pos he] at h
  obtain rfl := Option.some.inj h
  subst he
  have N_ := Aside0.mk n0
  clear n0 n1 h
  have HB0 : Aside0 (Below w.heap.size w w) := ⟨Below.refl _ _⟩
  obtain ⟨s0, Sz0⟩ : ∃ s0, Aside0 (w.heap.size = s0) := ⟨_, ⟨rfl⟩⟩
  have hw0 : w.heap.size ≤ s0 := Nat.le_of_eq Sz0.out
  have hw1 : s0 ≤ w.heap.size := Nat.le_of_eq Sz0.out.symm
  go_enter Try.func20, Try.ntmps20
  go_wp2_with (first | ((with_reducible refine gate_dst (N := 2) rfl ?_); refine hx_box rfl 2 rfl 28 (.tmp 0) rfl Sz0 (.agg (nums .i64 a0).toArray) (nums .i64 a0).toArray rfl rfl ?_; intro w1 s1 L1 Sz1 b1 g_; have H2_1 := Aside0.mk g_; clear g_; have K0 := kept_below b1; have HB1 := Aside0.mk (below_then HB0.out HB0.out.size b1); clear b1; clear K0 HB0) | ((with_reducible refine gate_dst (N := 3) rfl ?_); refine hx_box rfl 3 rfl 28 (.tmp 1) rfl Sz1 (.agg (nums .i64 a0).toArray) (nums .i64 a0).toArray rfl rfl ?_; intro w2 s2 L2 Sz2 b2 g_; have H3_2 := Aside0.mk g_; clear g_; have K1 := kept_below b2; have HB2 := Aside0.mk (below_then HB1.out HB1.out.size b2); have H2_2 := Aside0.mk (blk_kept H2_1.out K1 (fun h_ => h_)); clear b2; clear K1 HB1 H2_1) | ((with_reducible refine gate_dst (N := 6) rfl ?_); refine hx_loadf rfl 3 (.tmp 5) rfl s0 0 rfl Try.underlying3 rfl H2_2.out (lt_len (n := 15) N_.out (by decide)) ?_) | ((with_reducible refine gate_dst (N := 8) rfl ?_); refine hx_loadf rfl 3 (.tmp 7) rfl s1 0 rfl Try.underlying3 rfl H3_2.out (lt_len (n := 15) N_.out (by decide)) ?_) | ((with_reducible refine gate_dst (N := 11) rfl ?_); refine hx_loadp rfl 22 (.tmp 10) rfl s0 1 12 rfl Try.underlying22 rfl (by kernel_rfl) H2_2.out (le_len (n := 15) N_.out (by decide)) ?_) | ((with_reducible refine gate_dst (N := 13) rfl ?_); refine hx_loadp rfl 22 (.tmp 12) rfl s1 1 12 rfl Try.underlying22 rfl (by kernel_rfl) H3_2.out (le_len (n := 15) N_.out (by decide)) ?_) | ((with_reducible refine gate_dst (N := 14) rfl ?_); refine goesL_ (some 14) rfl rfl Try.func49 (by kernel_rfl) rfl #[.agg (nums .i64 (seg a0 1 12)).toArray, .agg (nums .i64 (seg a0 1 12)).toArray] rfl (by (try simp only [List.map_toArray, List.map_cons, List.map_nil]); first | done | rfl) ?_; refine (laws_eqIntA12.calls _ (part_len (n := 15) N_.out (by decide)) _ (part_len (n := 15) N_.out (by decide)) _ _ (if_pos rfl)).mono ?_; rintro e_ w3 ⟨rfl, b3⟩; refine ⟨_, rfl, ?_⟩; obtain ⟨s3, L3, Sz3⟩ := size_letter Sz2 (kept_below b3); have K2 := kept_below b3; have HB3 := Aside0.mk (below_then HB2.out HB2.out.size b3); have H2_3 := Aside0.mk (blk_kept H2_2.out K2 (fun h_ => h_)); have H3_3 := Aside0.mk (blk_kept H3_2.out K2 (fun h_ => h_)); clear b3; clear K2 HB2 H2_2 H3_2) | ((with_reducible refine gate_dst (N := 17) rfl ?_); refine hx_loadf rfl 3 (.tmp 16) rfl s0 13 rfl Try.underlying3 rfl H2_3.out (lt_len (n := 15) N_.out (by decide)) ?_) | ((with_reducible refine gate_dst (N := 19) rfl ?_); refine hx_loadf rfl 3 (.tmp 18) rfl s1 13 rfl Try.underlying3 rfl H3_3.out (lt_len (n := 15) N_.out (by decide)) ?_) | ((with_reducible refine gate_dst (N := 22) rfl ?_); refine hx_loadf rfl 3 (.tmp 21) rfl s0 14 rfl Try.underlying3 rfl H2_3.out (lt_len (n := 15) N_.out (by decide)) ?_) | ((with_reducible refine gate_dst (N := 24) rfl ?_); refine hx_loadf rfl 3 (.tmp 23) rfl s1 14 rfl Try.underlying3 rfl H3_3.out (lt_len (n := 15) N_.out (by decide)) ?_))
  go_ret
  exact ⟨rfl, HB3.out⟩

open Go.Proofs.YtkghgjehjchajaaW Go.Proofs.YtkghgjehjchajaaW.PrintHand Go.Proofs.YtkghgjehjchajaaW.PrintHx
/-! ### laws_eqInode: function 26 -/
def laws_eqInode.f (a0 a1 : List Int) : Option Bool := if a0 = a1 then some true else none
set_option maxHeartbeats 8000000 in
set_option maxRecDepth 100000 in
theorem laws_eqInode.calls (a0 : List Int) (n0 : a0.length = 24) (a1 : List Int) (n1 : a1.length = 24) (r : Bool) (w : World) (h : laws_eqInode.f a0 a1 = some r) :
    Calls Try.prog 26 #[.agg (nums .i64 a0).toArray, .agg (nums .i64 a1).toArray] w fun e w' => e = .returned (.bool r) ∧ Below w.heap.size w w' := by
  unfold laws_eqInode.f at h
  by_cases he : a0 = a1
  case neg => rw [if_neg he] at h; cases h
  rw [if_pos he] at h
  obtain rfl := Option.some.inj h
  subst he
  have N_ := Aside0.mk n0
  clear n0 n1 h
  have HB0 : Aside0 (Below w.heap.size w w) := ⟨Below.refl _ _⟩
  obtain ⟨s0, Sz0⟩ : ∃ s0, Aside0 (w.heap.size = s0) := ⟨_, ⟨rfl⟩⟩
  have hw0 : w.heap.size ≤ s0 := Nat.le_of_eq Sz0.out
  have hw1 : s0 ≤ w.heap.size := Nat.le_of_eq Sz0.out.symm
  go_enter Try.func26, Try.ntmps26
  go_wp2_with (first | ((with_reducible refine gate_dst (N := 2) rfl ?_); refine hx_box rfl 2 rfl 42 (.tmp 0) rfl Sz0 (.agg (nums .i64 a0).toArray) (nums .i64 a0).toArray rfl rfl ?_; intro w1 s1 L1 Sz1 b1 g_; have H2_1 := Aside0.mk g_; clear g_; have K0 := kept_below b1; have HB1 := Aside0.mk (below_then HB0.out HB0.out.size b1); clear b1; clear K0 HB0) | ((with_reducible refine gate_dst (N := 3) rfl ?_); refine hx_box rfl 3 rfl 42 (.tmp 1) rfl Sz1 (.agg (nums .i64 a0).toArray) (nums .i64 a0).toArray rfl rfl ?_; intro w2 s2 L2 Sz2 b2 g_; have H3_2 := Aside0.mk g_; clear g_; have K1 := kept_below b2; have HB2 := Aside0.mk (below_then HB1.out HB1.out.size b2); have H2_2 := Aside0.mk (blk_kept H2_1.out K1 (fun h_ => h_)); clear b2; clear K1 HB1 H2_1) | ((with_reducible refine gate_dst (N := 6) rfl ?_); refine hx_loadf rfl 3 (.tmp 5) rfl s0 0 rfl Try.underlying3 rfl H2_2.out (lt_len (n := 24) N_.out (by decide)) ?_) | ((with_reducible refine gate_dst (N := 8) rfl ?_); refine hx_loadf rfl 3 (.tmp 7) rfl s1 0 rfl Try.underlying3 rfl H3_2.out (lt_len (n := 24) N_.out (by decide)) ?_) | ((with_reducible refine gate_dst (N := 11) rfl ?_); refine hx_loadf rfl 3 (.tmp 10) rfl s0 1 rfl Try.underlying3 rfl H2_2.out (lt_len (n := 24) N_.out (by decide)) ?_) | ((with_reducible refine gate_dst (N := 13) rfl ?_); refine hx_loadf rfl 3 (.tmp 12) rfl s1 1 rfl Try.underlying3 rfl H3_2.out (lt_len (n := 24) N_.out (by decide)) ?_) | ((with_reducible refine gate_dst (N := 16) rfl ?_); refine hx_loadf rfl 3 (.tmp 15) rfl s0 2 rfl Try.underlying3 rfl H2_2.out (lt_len (n := 24) N_.out (by decide)) ?_) | ((with_reducible refine gate_dst (N := 18) rfl ?_); refine hx_loadf rfl 3 (.tmp 17) rfl s1 2 rfl Try.underlying3 rfl H3_2.out (lt_len (n := 24) N_.out (by decide)) ?_) | ((with_reducible refine gate_dst (N := 21) rfl ?_); refine hx_loadf rfl 3 (.tmp 20) rfl s0 3 rfl Try.underlying3 rfl H2_2.out (lt_len (n := 24) N_.out (by decide)) ?_) | ((with_reducible refine gate_dst (N := 23) rfl ?_); refine hx_loadf rfl 3 (.tmp 22) rfl s1 3 rfl Try.underlying3 rfl H3_2.out (lt_len (n := 24) N_.out (by decide)) ?_) | ((with_reducible refine gate_dst (N := 26) rfl ?_); refine hx_loadf rfl 3 (.tmp 25) rfl s0 4 rfl Try.underlying3 rfl H2_2.out (lt_len (n := 24) N_.out (by decide)) ?_) | ((with_reducible refine gate_dst (N := 28) rfl ?_); refine hx_loadf rfl 3 (.tmp 27) rfl s1 4 rfl Try.underlying3 rfl H3_2.out (lt_len (n := 24) N_.out (by decide)) ?_) | ((with_reducible refine gate_dst (N := 31) rfl ?_); refine hx_loadf rfl 3 (.tmp 30) rfl s0 5 rfl Try.underlying3 rfl H2_2.out (lt_len (n := 24) N_.out (by decide)) ?_) | ((with_reducible refine gate_dst (N := 33) rfl ?_); refine hx_loadf rfl 3 (.tmp 32) rfl s1 5 rfl Try.underlying3 rfl H3_2.out (lt_len (n := 24) N_.out (by decide)) ?_) | ((with_reducible refine gate_dst (N := 36) rfl ?_); refine hx_loadf rfl 3 (.tmp 35) rfl s0 6 rfl Try.underlying3 rfl H2_2.out (lt_len (n := 24) N_.out (by decide)) ?_) | ((with_reducible refine gate_dst (N := 38) rfl ?_); refine hx_loadf rfl 3 (.tmp 37) rfl s1 6 rfl Try.underlying3 rfl H3_2.out (lt_len (n := 24) N_.out (by decide)) ?_) | ((with_reducible refine gate_dst (N := 41) rfl ?_); refine hx_loadf rfl 3 (.tmp 40) rfl s0 7 rfl Try.underlying3 rfl H2_2.out (lt_len (n := 24) N_.out (by decide)) ?_) | ((with_reducible refine gate_dst (N := 43) rfl ?_); refine hx_loadf rfl 3 (.tmp 42) rfl s1 7 rfl Try.underlying3 rfl H3_2.out (lt_len (n := 24) N_.out (by decide)) ?_) | ((with_reducible refine gate_dst (N := 46) rfl ?_); refine hx_loadf rfl 3 (.tmp 45) rfl s0 8 rfl Try.underlying3 rfl H2_2.out (lt_len (n := 24) N_.out (by decide)) ?_) | ((with_reducible refine gate_dst (N := 48) rfl ?_); refine hx_loadf rfl 3 (.tmp 47) rfl s1 8 rfl Try.underlying3 rfl H3_2.out (lt_len (n := 24) N_.out (by decide)) ?_) | ((with_reducible refine gate_dst (N := 51) rfl ?_); refine hx_loadp rfl 28 (.tmp 50) rfl s0 9 15 rfl Try.underlying28 rfl (by kernel_rfl) H2_2.out (le_len (n := 24) N_.out (by decide)) ?_) | ((with_reducible refine gate_dst (N := 53) rfl ?_); refine hx_loadp rfl 28 (.tmp 52) rfl s1 9 15 rfl Try.underlying28 rfl (by kernel_rfl) H3_2.out (le_len (n := 24) N_.out (by decide)) ?_) | ((with_reducible refine gate_dst (N := 54) rfl ?_); refine goesL_ (some 54) rfl rfl Try.func20 (by kernel_rfl) rfl #[.agg (nums .i64 (seg a0 9 15)).toArray, .agg (nums .i64 (seg a0 9 15)).toArray] rfl (by (try simp only [List.map_toArray, List.map_cons, List.map_nil]); first | done | rfl) ?_; refine (laws_eqRoot.calls _ (part_len (n := 24) N_.out (by decide)) _ (part_len (n := 24) N_.out (by decide)) _ _ (if_pos rfl)).mono ?_; rintro e_ w3 ⟨rfl, b3⟩; refine ⟨_, rfl, ?_⟩; obtain ⟨s3, L3, Sz3⟩ := size_letter Sz2 (kept_below b3); have K2 := kept_below b3; have HB3 := Aside0.mk (below_then HB2.out HB2.out.size b3); have H2_3 := Aside0.mk (blk_kept H2_2.out K2 (fun h_ => h_)); have H3_3 := Aside0.mk (blk_kept H3_2.out K2 (fun h_ => h_)); clear b3; clear K2 HB2 H2_2 H3_2))
  go_ret
  exact ⟨rfl, HB3.out⟩

end Go.Proofs.Ytkghgjehjchajaa.PFnExactEncodeTable
