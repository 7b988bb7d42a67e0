-- Written by a program of this session (patch_print.py over the kit print)
import Derived.Test.YtkghgjehjchajaaPFnTablex0
import Derived.Test.YtkghgjehjchajaaPFnTablex2
import Derived.Test.YtkghgjehjchajaaPFnTablex4
namespace Go.Proofs.Ytkghgjehjchajaa.PFnTable
open Go.RowKit Go.Proofs.YtkghgjehjchajaaW.PrintWords Go.Proofs.YtkghgjehjchajaaW.PrintLast Go.Proofs.YtkghgjehjchajaaW.PrintMore
attribute [local go_sem] max2_int min2_int max_two min_two max_three min_three max_four min_four   -- for this text's walks alone
set_option linter.unusedVariables false
set_option linter.unusedSimpArgs false

open Go.Proofs.YtkghgjehjchajaaW Go.Proofs.YtkghgjehjchajaaW.PrintHand Go.Proofs.YtkghgjehjchajaaW.PrintHx
/-! ### spec_EncodeTable: function 28 -/
open Go.Proofs.YtkghgjehjchajaaW.PrintLe Go.Proofs.YtkghgjehjchajaaW.PrintIno Go.Proofs.YtkghgjehjchajaaW.PrintTabl Go.Proofs.YtkghgjehjchajaaW.PrintTab2 Go.Proofs.YtkghgjehjchajaaW.PrintEqW
def spec_EncodeTable.f (l0 : List (List Int)) : Option (List Int × Int) := some (if tableGood l0 = true then (tableBytes l0, 0) else ([], 7))
set_option maxHeartbeats 8000000 in
set_option maxRecDepth 100000 in
theorem spec_EncodeTable.calls (A0 : Option Addr) (c0 : Nat) (l0 : List (List Int)) (r1 : List Int) (r2 : Int) (w : World) (hr0 : Kd.C (PrintHx.wide 24) w A0 l0.length l0) (hc0 : l0.length ≤ c0) (h : spec_EncodeTable.f l0 = some (r1, r2)) :
    Calls Try.prog 28 #[.slice A0 l0.length c0] w fun e w' => ∃ v0_ : Value, e = .returned (.tuple #[v0_, .int .i64 r2]) ∧ Kd.R (Kd.int .u8) 5 w' w.heap.size (fun _ => True) v0_ r1 ∧ Below w.heap.size w w' := by
  unfold spec_EncodeTable.f at h
  have HH := Aside0.mk h
  have HW := Aside0.mk (wide_len hr0)
  have HR0 := Aside0.mk hr0
  have HC0 := Aside0.mk hc0
  obtain ⟨m, hm⟩ : ∃ m : Nat, (m : Int) = lastOf l0 := ⟨(lastOf l0).toNat, by have := lastOf_pos l0; omega⟩
  have HMM := Aside0.mk hm
  have HLAST := Aside0.mk (show spec_l05Last.f l0 = some (m : Int) by rw [hm]; rfl)
  have HLEN := Aside0.mk (show l0.length ≤ 9223372036854775807 from hr0.2.1)
  have Z42 : ∀ w, (zeroValue 42).run Try.prog w = .ok (.agg (nums .i64 (List.replicate 24 0)).toArray) w := fun _ => by kernel_rfl
  obtain ⟨zz, hzz⟩ : ∃ z, z = List.replicate 24 (0 : Int) := ⟨_, rfl⟩
  have ZZ := Aside0.mk hzz
  have NZ := Aside0.mk (show zz.length = 24 by rw [hzz]; simp)
  have HB := Aside0.mk (Below.refl w.heap.size w)
  clear hr0 hc0 h hm hzz
  go_enter Try.func28, Try.ntmps28
  go_wp2
  (try simp only [Act.put, List.setIfInBounds_toArray, List.set_cons_succ, List.set_cons_zero])
  go_loopw [5, 8] (fun v5 v8 wr => ∃ (j : Nat) (u5 : Value), u5 = v5 ∧ v8 = .int .i64 (j : Int) ∧ Aside0 (j ≤ l0.length) ∧ Aside0 (∀ i, i < j → inodeGood (l0.getD i []) = true) ∧ Aside0 (Below w.heap.size w wr)) (fun _ v8 _ => l0.length - (intOf v8).toNat)
  case atStart => exact ⟨0, _, rfl, rfl, ⟨Nat.zero_le _⟩, ⟨fun i hi => absurd hi (by omega)⟩, HB⟩
  case round =>
    clear HB
    obtain ⟨j, v5, rfl, rfl, hj, HG, HB⟩ := hrel
    by_cases c9 : j < l0.length
    · have c9b0 : decide ((j : Int) < (l0.length : Int)) = true := decide_eq_true (by omega)
      have c9b1 : decide (j < l0.length) = true := decide_eq_true c9
      have q3 : ((j : Int) < (l0.length : Int)) = True := eq_true (by omega)
      have q4 : (0 ≤ (j : Int)) = True := eq_true (by omega)
      have q5 : (j < l0.length) = True := eq_true c9
      obtain ⟨ad, ea, hl, hc⟩ := wide_at (Kd.C_below HR0.out HB.out) j c9
      subst ea
      obtain ⟨x, hx⟩ : ∃ x, x = l0.getD j [] := ⟨_, rfl⟩
      rw [← hx] at hl hc
      have HX := Aside0.mk hx
      have HL := Aside0.mk hl
      have HC := Aside0.mk hc
      have C9 := Aside0.mk c9
      obtain ⟨sj, Szj⟩ : ∃ s, Aside0 (wr.heap.size = s) := ⟨_, ⟨rfl⟩⟩
      have hle_ : w.heap.size ≤ sj := by rw [← Szj.out]; exact HB.out.size
      clear hx hl hc c9
      obtain ⟨b, hb⟩ : ∃ b, b = inodeGood x := ⟨_, rfl⟩
      have HG1 := Aside0.mk (show spec_l02Inode.f x = some b by rw [hb]; rfl)
      have HGB := Aside0.mk hb
      clear hb
      cases b with
      | false =>
        go_wp2_with (first | ((with_reducible refine gate_dst (N := 11) rfl ?_); refine hx_load_at rfl 42 (.tmp 10) rfl (ad.add (j * 24)) rfl x 24 Try.underlying42 rfl (by kernel_rfl) HL.out (fun i hi => by rw [Addr.add_add]; exact HC.out i hi) ?_) | ((with_reducible refine gate_dst (N := 5) rfl ?_); refine hx_alloc rfl 5 rfl 42 rfl Szj (.agg (nums .i64 (List.replicate 24 0)).toArray) (nums .i64 (List.replicate 24 0)).toArray Z42 rfl ?_; intro w2 s2 Ls2 Ss2 b_ g_; have HA := Aside0.mk g_; have HB2 := Aside0.mk (below_then HB.out HB.out.size b_); clear b_ g_ HB) | ((with_reducible refine gate_store (t := 42) (p := 5) (v := .tmp 11) rfl ?_); refine hx_store rfl rfl 42 (.tmp 5) (.tmp 11) rfl sj 24 rfl (nums .i64 x).toArray rfl (by kernel_rfl) (nums_size _ _ _ HL.out) (nums_one _ _) HA.out (by simp [nums]) ?_; intro w3 t_ gg_; have HA3 := Aside0.mk gg_; have HB3 := Aside0.mk (t_.below HB2.out (by omega)); clear t_ gg_ HA HB2) | ((with_reducible refine gate_dst (N := 12) rfl ?_); refine hx_load rfl 42 (.tmp 5) rfl sj 24 rfl Try.underlying42 rfl (by kernel_rfl) HA3.out (nums_size _ _ _ HL.out) ?_) | ((with_reducible refine gate_dst (N := 13) rfl ?_); refine goesL_ (some 13) rfl rfl Try.func50 (by kernel_rfl) rfl #[.agg (nums .i64 x).toArray] rfl (by (try simp only [List.map_toArray, List.map_cons, List.map_nil]); first | done | rfl) ?_; refine (spec_l02Inode.calls x HL.out _ _ HG1.out).mono ?_; rintro e_ w4 ⟨rfl, b_⟩; refine ⟨_, rfl, ?_⟩; have HB4 := Aside0.mk (below_then HB3.out HB3.out.size b_); clear b_ HB3 HA3))
        go_ret2
        have e_ : tableGood l0 = false := by unfold tableGood; rw [allGood_not C9.out (by rw [← HX.out]; exact HGB.out.symm)]; rfl
        have h_ := HH.out
        rw [e_] at h_
        simp only [Bool.false_eq_true, if_false, Option.some.injEq, Prod.mk.injEq] at h_
        obtain ⟨rfl, rfl⟩ := h_
        exact ⟨_, rfl, Kd.R_nil _ _ _ _ _, HB4.out⟩
      | true =>
        go_wp2_with (first | ((with_reducible refine gate_dst (N := 11) rfl ?_); refine hx_load_at rfl 42 (.tmp 10) rfl (ad.add (j * 24)) rfl x 24 Try.underlying42 rfl (by kernel_rfl) HL.out (fun i hi => by rw [Addr.add_add]; exact HC.out i hi) ?_) | ((with_reducible refine gate_dst (N := 5) rfl ?_); refine hx_alloc rfl 5 rfl 42 rfl Szj (.agg (nums .i64 (List.replicate 24 0)).toArray) (nums .i64 (List.replicate 24 0)).toArray Z42 rfl ?_; intro w2 s2 Ls2 Ss2 b_ g_; have HA := Aside0.mk g_; have HB2 := Aside0.mk (below_then HB.out HB.out.size b_); clear b_ g_ HB) | ((with_reducible refine gate_store (t := 42) (p := 5) (v := .tmp 11) rfl ?_); refine hx_store rfl rfl 42 (.tmp 5) (.tmp 11) rfl sj 24 rfl (nums .i64 x).toArray rfl (by kernel_rfl) (nums_size _ _ _ HL.out) (nums_one _ _) HA.out (by simp [nums]) ?_; intro w3 t_ gg_; have HA3 := Aside0.mk gg_; have HB3 := Aside0.mk (t_.below HB2.out (by omega)); clear t_ gg_ HA HB2) | ((with_reducible refine gate_dst (N := 12) rfl ?_); refine hx_load rfl 42 (.tmp 5) rfl sj 24 rfl Try.underlying42 rfl (by kernel_rfl) HA3.out (nums_size _ _ _ HL.out) ?_) | ((with_reducible refine gate_dst (N := 13) rfl ?_); refine goesL_ (some 13) rfl rfl Try.func50 (by kernel_rfl) rfl #[.agg (nums .i64 x).toArray] rfl (by (try simp only [List.map_toArray, List.map_cons, List.map_nil]); first | done | rfl) ?_; refine (spec_l02Inode.calls x HL.out _ _ HG1.out).mono ?_; rintro e_ w4 ⟨rfl, b_⟩; refine ⟨_, rfl, ?_⟩; have HB4 := Aside0.mk (below_then HB3.out HB3.out.size b_); clear b_ HB3 HA3))
        go_roundw
        case rel => exact ⟨j + 1, _, rfl, by rw [show wrap64 ((j : Int) + 1) = ((j + 1 : Nat) : Int) by (have := HLEN.out; have := C9.out; unfold wrap64; omega)], ⟨by have := C9.out; omega⟩, ⟨fun i hi => by
          by_cases hij : i = j
          · rw [hij, ← HX.out]; exact HGB.out.symm
          · exact HG.out i (by omega)⟩, HB4⟩
        case measure =>
          rw [show wrap64 ((j : Int) + 1) = ((j + 1 : Nat) : Int) by (have := HLEN.out; have := C9.out; unfold wrap64; omega)]
          simp only [intOf, Int.toNat_natCast]
          have := C9.out
          omega
    · obtain rfl : j = l0.length := by have := hj.out; omega
      have c9b0 : decide ((l0.length : Int) < (l0.length : Int)) = false := decide_eq_false (by omega)
      have c9b1 : decide (l0.length < l0.length) = false := decide_eq_false c9
      clear c9
      have HAG := Aside0.mk (allGood_of HG.out)
      by_cases c17 : 0 < l0.length
      · have c17b0 : decide ((0 : Int) < (l0.length : Int)) = true := decide_eq_true (by omega)
        have c17b1 : decide (0 < l0.length) = true := decide_eq_true c17
        have q3 : ((0 : Int) < (l0.length : Int)) = True := eq_true (by omega)
        have q5 : (0 < l0.length) = True := eq_true c17
        obtain ⟨ad, ea, hl, hc⟩ := wide_at (Kd.C_below HR0.out HB.out) 0 c17
        subst ea
        obtain ⟨x, hx⟩ : ∃ x, x = l0.getD 0 [] := ⟨_, rfl⟩
        rw [← hx] at hl hc
        have HX := Aside0.mk hx
        have HL := Aside0.mk hl
        have HC := Aside0.mk hc
        clear hx hl hc c17
        by_cases c24 : x = zz
        · have BE := Aside0.mk (show (!decide (x = zz)) = false by rw [decide_eq_true c24]; rfl)
          have HFZ := Aside0.mk (show firstZero l0 = true by unfold firstZero; rw [← HX.out, decide_eq_true (show x = zInode by rw [c24, ZZ.out]; rfl)]; simp)
          clear c24
          by_cases c29 : m ≤ 1000
          · have c29b0 : decide ((1000 : Int) < (m : Int)) = false := decide_eq_false (by omega)
            have c29b1 : decide (1000 < m) = false := decide_eq_false (by omega)
            have HTG := Aside0.mk (show tableGood l0 = true by unfold tableGood; rw [HAG.out, HFZ.out, decide_eq_true (show lastOf l0 ≤ 1000 by rw [← HMM.out]; omega)]; rfl)
            have HTB := Aside0.mk (show spec_l05Bytes.f l0 = some (tableBytes l0) from if_pos ⟨HAG.out, by rw [← HMM.out]; omega⟩)
            clear c29
            go_wp2_with (first | ((with_reducible refine gate_dst (N := 22) rfl ?_); refine ungd (by rfl) ?_; refine hx_load_at rfl 42 (.tmp 21) rfl (ad.add (0 * 24)) (by first | rfl | (go_simp; done) | simp) x 24 Try.underlying42 rfl (by kernel_rfl) HL.out (fun i hi => by rw [Addr.add_add]; exact HC.out i hi) ?_) | ((with_reducible refine gate_dst (N := 24) rfl ?_); refine ungd (by rfl) ?_; refine wpList_neqw rfl (.tmp 22) (.tmp 23) _ rfl eqw42 (by decide) (by kernel_rfl) x zz rfl (by rw [ZZ.out]; rfl) HL.out NZ.out ?_; rw [BE.out]) | (go_at_call 57; (with_reducible refine (spec_l05Last.calls (some ad) c0 l0 (m : Int) _ (Kd.C_below HR0.out HB.out) HC0.out HLAST.out).mono ?_); rintro e_ w2 ⟨rfl, b_⟩; have HB2 := Aside0.mk (below_then HB.out HB.out.size b_); clear b_ HB) | ((with_reducible refine gate_dst (N := 32) rfl ?_); refine goesL_ (some 32) rfl rfl Try.func58 (by kernel_rfl) rfl #[.slice (some ad) l0.length c0] rfl (by (try simp only [List.map_toArray, List.map_cons, List.map_nil]); first | done | rfl) ?_; refine (spec_l05Bytes.calls (some ad) c0 l0 _ _ (Kd.C_below HR0.out HB2.out) HC0.out HTB.out).mono ?_; rintro e_ w3 ⟨v32, rfl, R_, b_⟩; refine ⟨_, rfl, ?_⟩; have O32 := Aside0.mk (Kd.R_lower R_ HB2.out.size); have HB3 := Aside0.mk (below_then HB2.out HB2.out.size b_); clear R_ b_ HB2))
            go_ret2
            have h_ := HH.out
            rw [HTG.out] at h_
            simp only [if_true, Option.some.injEq, Prod.mk.injEq] at h_
            obtain ⟨rfl, rfl⟩ := h_
            exact ⟨_, rfl, O32.out, HB3.out⟩
          · have c29b0 : decide ((1000 : Int) < (m : Int)) = true := decide_eq_true (by omega)
            have c29b1 : decide (1000 < m) = true := decide_eq_true (by omega)
            have HTG := Aside0.mk (show tableGood l0 = false by unfold tableGood; rw [decide_eq_false (show ¬ lastOf l0 ≤ 1000 by rw [← HMM.out]; omega)]; simp)
            clear c29
            go_wp2_with (first | ((with_reducible refine gate_dst (N := 22) rfl ?_); refine ungd (by rfl) ?_; refine hx_load_at rfl 42 (.tmp 21) rfl (ad.add (0 * 24)) (by first | rfl | (go_simp; done) | simp) x 24 Try.underlying42 rfl (by kernel_rfl) HL.out (fun i hi => by rw [Addr.add_add]; exact HC.out i hi) ?_) | ((with_reducible refine gate_dst (N := 24) rfl ?_); refine ungd (by rfl) ?_; refine wpList_neqw rfl (.tmp 22) (.tmp 23) _ rfl eqw42 (by decide) (by kernel_rfl) x zz rfl (by rw [ZZ.out]; rfl) HL.out NZ.out ?_; rw [BE.out]) | (go_at_call 57; (with_reducible refine (spec_l05Last.calls (some ad) c0 l0 (m : Int) _ (Kd.C_below HR0.out HB.out) HC0.out HLAST.out).mono ?_); rintro e_ w2 ⟨rfl, b_⟩; have HB2 := Aside0.mk (below_then HB.out HB.out.size b_); clear b_ HB))
            go_ret2
            have h_ := HH.out
            rw [HTG.out] at h_
            simp only [Bool.false_eq_true, if_false, Option.some.injEq, Prod.mk.injEq] at h_
            obtain ⟨rfl, rfl⟩ := h_
            exact ⟨_, rfl, Kd.R_nil _ _ _ _ _, HB2.out⟩
        · have BE := Aside0.mk (show (!decide (x = zz)) = true by rw [decide_eq_false c24]; rfl)
          have HFZ := Aside0.mk (show firstZero l0 = false by unfold firstZero; rw [← HX.out, decide_eq_false (show ¬ x = zInode by intro h_; exact c24 (by rw [h_, ZZ.out]; rfl)), decide_eq_false (show ¬ l0.length = 0 by have := of_eq_true q5; omega)]; rfl)
          clear c24
          go_wp2_with (first | ((with_reducible refine gate_dst (N := 22) rfl ?_); refine ungd (by rfl) ?_; refine hx_load_at rfl 42 (.tmp 21) rfl (ad.add (0 * 24)) (by first | rfl | (go_simp; done) | simp) x 24 Try.underlying42 rfl (by kernel_rfl) HL.out (fun i hi => by rw [Addr.add_add]; exact HC.out i hi) ?_) | ((with_reducible refine gate_dst (N := 24) rfl ?_); refine ungd (by rfl) ?_; refine wpList_neqw rfl (.tmp 22) (.tmp 23) _ rfl eqw42 (by decide) (by kernel_rfl) x zz rfl (by rw [ZZ.out]; rfl) HL.out NZ.out ?_; rw [BE.out]))
          go_ret2
          have e_ : tableGood l0 = false := by unfold tableGood; rw [HFZ.out]; simp
          have h_ := HH.out
          rw [e_] at h_
          simp only [Bool.false_eq_true, if_false, Option.some.injEq, Prod.mk.injEq] at h_
          obtain ⟨rfl, rfl⟩ := h_
          exact ⟨_, rfl, Kd.R_nil _ _ _ _ _, HB.out⟩
      · have c17b0 : decide ((0 : Int) < (l0.length : Int)) = false := decide_eq_false (by omega)
        have c17b1 : decide (0 < l0.length) = false := decide_eq_false c17
        have HFZ := Aside0.mk (show firstZero l0 = true by unfold firstZero; rw [decide_eq_true (show l0.length = 0 by omega)]; rfl)
        clear c17
        by_cases c29 : m ≤ 1000
        · have c29b0 : decide ((1000 : Int) < (m : Int)) = false := decide_eq_false (by omega)
          have c29b1 : decide (1000 < m) = false := decide_eq_false (by omega)
          have HTG := Aside0.mk (show tableGood l0 = true by unfold tableGood; rw [HAG.out, HFZ.out, decide_eq_true (show lastOf l0 ≤ 1000 by rw [← HMM.out]; omega)]; rfl)
          have HTB := Aside0.mk (show spec_l05Bytes.f l0 = some (tableBytes l0) from if_pos ⟨HAG.out, by rw [← HMM.out]; omega⟩)
          clear c29
          go_wp2_with (first | fail | (go_at_call 57; (with_reducible refine (spec_l05Last.calls A0 c0 l0 (m : Int) _ (Kd.C_below HR0.out HB.out) HC0.out HLAST.out).mono ?_); rintro e_ w2 ⟨rfl, b_⟩; have HB2 := Aside0.mk (below_then HB.out HB.out.size b_); clear b_ HB) | ((with_reducible refine gate_dst (N := 32) rfl ?_); refine goesL_ (some 32) rfl rfl Try.func58 (by kernel_rfl) rfl #[.slice A0 l0.length c0] rfl (by (try simp only [List.map_toArray, List.map_cons, List.map_nil]); first | done | rfl) ?_; refine (spec_l05Bytes.calls A0 c0 l0 _ _ (Kd.C_below HR0.out HB2.out) HC0.out HTB.out).mono ?_; rintro e_ w3 ⟨v32, rfl, R_, b_⟩; refine ⟨_, rfl, ?_⟩; have O32 := Aside0.mk (Kd.R_lower R_ HB2.out.size); have HB3 := Aside0.mk (below_then HB2.out HB2.out.size b_); clear R_ b_ HB2))
          go_ret2
          have h_ := HH.out
          rw [HTG.out] at h_
          simp only [if_true, Option.some.injEq, Prod.mk.injEq] at h_
          obtain ⟨rfl, rfl⟩ := h_
          exact ⟨_, rfl, O32.out, HB3.out⟩
        · have c29b0 : decide ((1000 : Int) < (m : Int)) = true := decide_eq_true (by omega)
          have c29b1 : decide (1000 < m) = true := decide_eq_true (by omega)
          have HTG := Aside0.mk (show tableGood l0 = false by unfold tableGood; rw [decide_eq_false (show ¬ lastOf l0 ≤ 1000 by rw [← HMM.out]; omega)]; simp)
          clear c29
          go_wp2_with (first | fail | (go_at_call 57; (with_reducible refine (spec_l05Last.calls A0 c0 l0 (m : Int) _ (Kd.C_below HR0.out HB.out) HC0.out HLAST.out).mono ?_); rintro e_ w2 ⟨rfl, b_⟩; have HB2 := Aside0.mk (below_then HB.out HB.out.size b_); clear b_ HB))
          go_ret2
          have h_ := HH.out
          rw [HTG.out] at h_
          simp only [Bool.false_eq_true, if_false, Option.some.injEq, Prod.mk.injEq] at h_
          obtain ⟨rfl, rfl⟩ := h_
          exact ⟨_, rfl, Kd.R_nil _ _ _ _ _, HB2.out⟩

/-! ### impl_put_int: function 53 -/
def impl_put_int.l0 : Nat → List Int → Int → Int → Int → Int → Option (List Int)
  | 0, _, _, _, _, _ => none
  | k + 1, x0, x1, x3, x9, x10 => if x10 < x9 then (if 0 ≤ (wrap64 (8 * x10)) then (if 0 ≤ (wrap64 (x1 + x10)) then (if (wrap64 (x1 + x10)) < (x0.length : Int) then (impl_put_int.l0 k (x0.set ((wrap64 (x1 + x10)) : Int).toNat ((shr .u64 (IntKind.u64.wrap (x3)) (wrap64 (8 * x10))) % 256)) x1 x3 x9 (wrap64 (x10 + 1))) else (none)) else (none)) else (none)) else (some x0)
def impl_put_int.f (k : Nat) (l0 : List Int) (a1 : Int) (a2 : Int) (a3 : Int) : Option (List Int) := impl_put_int.l0 k l0 a1 a3 a2 0
theorem impl_put_int.mono_l : ∀ k, (∀ y0 y1 y2 y3 y4, LeO (impl_put_int.l0 k y0 y1 y2 y3 y4) (impl_put_int.l0 (k + 1) y0 y1 y2 y3 y4))
  | 0 => fun _ _ _ _ _ r h => by simp [impl_put_int.l0] at h
  | k + 1 => by
    have ih0 := impl_put_int.mono_l k
    · intro y0 y1 y2 y3 y4
      unfold impl_put_int.l0
      repeat' first
      | (with_reducible exact ih0 _ _ _ _ _)
      | (with_reducible exact LeO.refl _)
      | (with_reducible exact LeO.none _)
      | (with_reducible refine LeO.ite ?_ ?_)
      | (with_reducible refine LeO.bind ?_ (fun _ => ?_))
      | exact ih0 _ _ _ _ _
      | exact LeO.none _
      | refine LeO.ite ?_ ?_
      | refine LeO.bind ?_ (fun _ => ?_)
theorem impl_put_int.mono : ∀ a0 a1 a2 a3 k, LeO (impl_put_int.f k a0 a1 a2 a3) (impl_put_int.f (k + 1) a0 a1 a2 a3) := by
  intro a0 a1 a2 a3 k
  have ih0 := impl_put_int.mono_l k
  unfold impl_put_int.f
  repeat' first
      | (with_reducible exact ih0 _ _ _ _ _)
      | (with_reducible exact LeO.refl _)
      | (with_reducible exact LeO.none _)
      | (with_reducible refine LeO.ite ?_ ?_)
      | (with_reducible refine LeO.bind ?_ (fun _ => ?_))
      | exact ih0 _ _ _ _ _
      | exact LeO.none _
      | refine LeO.ite ?_ ?_
      | refine LeO.bind ?_ (fun _ => ?_)
set_option maxHeartbeats 8000000 in
set_option maxRecDepth 100000 in
theorem impl_put_int.calls (k : Nat) (P0_ : Nat → Prop) (u9000_ : Value) (l0 : List Int) (a1 : Int) (a2 : Int) (a3 : Int) (r : List Int) (w0 w : World) (hB : Below w0.heap.size w0 w) (ho0 : Kd.R (Kd.int .u8) 5 w w0.heap.size P0_ u9000_ l0) (h : impl_put_int.f k l0 a1 a2 a3 = some r) :
    Calls Try.prog 53 #[u9000_, .int .i64 a1, .int .i64 a2, .int .i64 a3] w fun e w' => e = .returned (.tuple #[]) ∧ Kd.R (Kd.int .u8) 5 w' w0.heap.size (fun k_ => (P0_ k_ ∨ w.heap.size ≤ k_)) u9000_ r ∧ Below w0.heap.size w0 w' ∧ Kept w w' (fun k_ => P0_ k_) := by
  have HO0 := Aside0.mk (show Kd.R (Kd.int .u8) 5 w w0.heap.size (fun k_ => (P0_ k_ ∨ w.heap.size ≤ k_)) u9000_ l0 from Kd.R_mono ho0 (fun k_ hk => (.inl hk)))
  have HK := Aside0.mk (Kept.refl w (fun k_ => P0_ k_))
  have HW0 := Aside0.mk hB.size
  have HB := Aside0.mk hB
  clear hB
  have H : (impl_put_int.l0 k l0 a1 a3 a2 0) = some r := h
  clear h
  have H' := Aside0.mk H
  clear H
  go_enter Try.func53, Try.ntmps53
  go_wp2
  go_loopg [10] k (fun kq v10 w' => ∃ (x0_1 : List Int) (x10_1 : Int), v10 = .int .i64 x10_1 ∧ Aside0 (impl_put_int.l0 kq x0_1 a1 a3 a2 x10_1 = some r) ∧ Aside0 (kq ≤ k) ∧ Aside0 (Kd.R (Kd.int .u8) 5 w' w0.heap.size (fun k_ => (P0_ k_ ∨ w.heap.size ≤ k_)) u9000_ x0_1) ∧ Aside0 (Kept w w' (fun k_ => P0_ k_)) ∧ Aside0 (Below w0.heap.size w0 w'))
  case atStart => exact ⟨(l0), (0), (by first | rfl | (simp; done) | (simp [*]; done)), H', ⟨Nat.le_refl _⟩, ⟨by (with_reducible repeat (first | apply Kd.R_alloc | apply Kd.R_drewN | apply Kd.R_drew)); exact HO0.out⟩, ⟨by repeat (first | (with_reducible first | exact HK.out | apply Kept.alloc | apply Kept.drewN | apply Kept.drew) | exact HK.out)⟩, ⟨by repeat (first | (with_reducible first | exact HB.out | apply below_alloc | apply pw_below_drewN | apply below_drew1) | exact HB.out)⟩⟩
  case round =>
    clear H'
    try clear p2
    obtain ⟨x0_1, x10_1, rfl, HA, HK1, HO_0, HK, HB⟩ := hrel
    cases gk with
    | zero => exact absurd HA.out (by simp [impl_put_int.l0])
    | succ k1 =>
      have H := HA.out
      clear HA
      simp only [impl_put_int.l0] at H
      by_cases c5 : x10_1 < a2
      · rw [if_pos c5] at H
        have c5b0 : decide (x10_1 < a2) = true := decide_eq_true c5
        clear c5
        obtain ⟨ji6, hji6⟩ : ∃ j_ : Int, (wrap64 (8 * x10_1)) = j_ := ⟨_, rfl⟩
        replace H : (if 0 ≤ (ji6) then (if 0 ≤ (wrap64 (a1 + x10_1)) then (if (wrap64 (a1 + x10_1)) < (x0_1.length : Int) then (impl_put_int.l0 k1 (x0_1.set ((wrap64 (a1 + x10_1)) : Int).toNat ((shr .u64 (IntKind.u64.wrap (a3)) (ji6)) % 256)) a1 a3 a2 (wrap64 (x10_1 + 1))) else (none)) else (none)) else (none)) = some r := by first | (rw [hji6] at H; exact H) | (simp only [hji6] at H ⊢; exact H)
        have hji6w : (IntKind.i64.wrap (8 * x10_1)) = ji6 := (i64_w _).trans hji6
        by_cases c7 : 0 ≤ (ji6)
        · rw [if_pos c7] at H
          have c7b0 := eq_true c7
          have c7b1 : decide (0 ≤ (ji6)) = true := decide_eq_true c7
          clear c7
          obtain ⟨ji8, hji8⟩ : ∃ j_ : Int, (shr .u64 (IntKind.u64.wrap (a3)) (ji6)) = j_ := ⟨_, rfl⟩
          replace H : (if 0 ≤ (wrap64 (a1 + x10_1)) then (if (wrap64 (a1 + x10_1)) < (x0_1.length : Int) then (impl_put_int.l0 k1 (x0_1.set ((wrap64 (a1 + x10_1)) : Int).toNat ((ji8) % 256)) a1 a3 a2 (wrap64 (x10_1 + 1))) else (none)) else (none)) = some r := by first | (rw [hji8] at H; exact H) | (simp only [hji8] at H ⊢; exact H)
          have hji8_ : ((IntKind.u64.wrap (a3)) / 2 ^ min (ji6).toNat 64) = ji8 := hji8
          have hji8z : (ji6) ≤ 64 → ((IntKind.u64.wrap (a3)) / 2 ^ (ji6).toNat) = ji8 := shr_small hji8
          obtain ⟨ji9, hji9⟩ : ∃ j_ : Int, (wrap64 (a1 + x10_1)) = j_ := ⟨_, rfl⟩
          replace H : (if 0 ≤ (ji9) then (if (ji9) < (x0_1.length : Int) then (impl_put_int.l0 k1 (x0_1.set ((ji9) : Int).toNat ((ji8) % 256)) a1 a3 a2 (wrap64 (x10_1 + 1))) else (none)) else (none)) = some r := by first | (rw [hji9] at H; exact H) | (simp only [hji9] at H ⊢; exact H)
          have hji9w : (IntKind.i64.wrap (a1 + x10_1)) = ji9 := (i64_w _).trans hji9
          by_cases c10 : 0 ≤ (ji9)
          · rw [if_pos c10] at H
            have c10b0 : decide (0 ≤ (ji9)) = true := decide_eq_true c10
            clear c10
            by_cases c11 : (ji9) < (x0_1.length : Int)
            · rw [if_pos c11] at H
              have c11b0 : decide ((ji9) < (x0_1.length : Int)) = true := decide_eq_true c11
              clear c11
              obtain ⟨y123, hy123⟩ : ∃ y_ : List Int, y_ = (x0_1.set ((ji9) : Int).toNat ((ji8) % 256)) := ⟨_, rfl⟩
              replace H : (impl_put_int.l0 k1 y123 a1 a3 a2 (wrap64 (x10_1 + 1))) = some r := by first | (rw [hy123]; with_reducible exact H) | (have H2_ := (Option.bind_some _ _).symm.trans H; rw [hy123]; with_reducible exact H2_) | (have H2_ := (Option.bind_some _ _).symm.trans H; with_reducible exact H2_) | with_reducible exact H | (rw [hy123]; exact H) | exact H
              have Ny123 := Aside0.mk hy123
              clear hy123
              have H' := Aside0.mk H
              clear H
              have p12 : 0 ≤ ((ji9) : Int) := of_decide_eq_true (by first | (with_reducible assumption) | assumption)
              have q12 : ((ji9) : Int) < ((x0_1.length : Int) : Int) := of_decide_eq_true (by first | (with_reducible assumption) | assumption)
              obtain ⟨go12, co12, eo12, gb12, gl12, cl12, HG12⟩ := Kd.R_form HO_0.out (by omega)
              (first | cases eo12 | (injection eo12 with ea_ en_ ec_; (first | subst ea_ | (injection ea_ with ea_; subst ea_)); subst ec_; clear en_))
              have GB12 := Aside0.mk gb12
              have GG12 := Aside0.mk HG12
              clear gb12 gl12 HG12
              have HMgo12 := Aside0.mk (show (P0_ go12 ∨ w.heap.size ≤ go12) from (HO_0.out.1 _ rfl))
              obtain ⟨hx12_0, hf12_0⟩ := Kd.R_celln 0 HO_0.out ((ji9) : Int) p12 q12
              replace p12 := eq_true p12
              replace q12 := eq_true q12
              have HP13 := Kd.R_putg HO_0.out ((ji9) : Int) ((ji8) % 256)
              go_wp2_with (first | ((with_reducible refine gate_store (t := 5) (p := 23) rfl ?_); refine store_event (t := 5) (p := 23) (v := ?vo_w14) (w1 := (wr.setCell ⟨go12, ((ji9) : Int).toNat, none⟩ (.int .u8 ((ji8) % 256)))) ?hg ?ho ?hn ?hr ?_; (case ho => rfl); (case hg => rfl); (case hn => rfl); (case hr => first | (go_simp; done) | (go_simp; rfl)); intro w14 hw; have hg : wr.grownBy w14 (some go12) := (by rw [hw]; exact HP13.2); have hp_ : Kd.R (Kd.int .u8) 5 w14 w0.heap.size (fun k_ => (P0_ k_ ∨ w.heap.size ≤ k_)) (.slice (some ⟨go12, 0, none⟩) x0_1.length co12) y123 := (by rw [hw, Ny123.out]; exact HP13.1); clear HP13; have n0_ := Aside0.mk (hp_); have n1_ := Aside0.mk ((by rw [hw]; exact below_set (HB.out) GB12.out : Below w0.heap.size w0 w14)); have n2_ := Aside0.mk (Kept.of_grown (S := (fun k_ => P0_ k_)) hg (by repeat (first | (with_reducible first | exact HK.out | apply Kept.alloc | apply Kept.drewN | apply Kept.drew) | exact HK.out)) (fun k_ e_ => (HO_0.out.1 k_ e_))); clear HO_0; clear HB; clear HK; have HO_0 := n0_; have HB := n1_; have HK := n2_; clear n0_ n1_ n2_; clear hg hw hp_))
              go_roundg k1
              case measure => have := HK1.out; omega
              case rel => exact ⟨(y123), (wrap64 (x10_1 + 1)), (by first | rfl | (simp; done) | (simp [*]; done)), H', ⟨by have := HK1.out; omega⟩, ⟨by (with_reducible repeat (first | apply Kd.R_alloc | apply Kd.R_drewN | apply Kd.R_drew)); exact HO_0.out⟩, ⟨by repeat (first | (with_reducible first | exact HK.out | apply Kept.alloc | apply Kept.drewN | apply Kept.drew) | exact HK.out)⟩, ⟨by repeat (first | (with_reducible first | exact HB.out | apply below_alloc | apply pw_below_drewN | apply below_drew1) | exact HB.out)⟩⟩
            · rw [if_neg c11] at H
              exact absurd H (by simp)
          · rw [if_neg c10] at H
            exact absurd H (by simp)
        · rw [if_neg c7] at H
          exact absurd H (by simp)
      · rw [if_neg c5] at H
        have c5b0 : decide (x10_1 < a2) = false := decide_eq_false c5
        clear c5
        obtain rfl := Option.some.inj H
        go_wp2
        first | go_end0 | ((try simp only [Exit.inBlock, Exit.then]); refine bodyPost_ret (results_none rfl _ _ _) rfl ?_)
        exact ⟨by first | rfl | (simp [errW_none, errW_some] <;> rfl) | (simp [*, errW_none, errW_some] <;> rfl), by (with_reducible repeat (first | apply Kd.R_alloc | apply Kd.R_drewN | apply Kd.R_drew)); exact HO_0.out, by repeat (first | (with_reducible first | exact HB.out | apply below_alloc | apply pw_below_drewN | apply below_drew1) | exact HB.out), by repeat (first | (with_reducible first | exact HK.out | apply Kept.alloc | apply Kept.drewN | apply Kept.drew) | exact HK.out)⟩

open Go.Proofs.YtkghgjehjchajaaW Go.Proofs.YtkghgjehjchajaaW.PrintHand Go.Proofs.YtkghgjehjchajaaW.PrintHx
/-! ### impl_Root_pointers: function 72 -/
def impl_Root_pointers.f (a0 : List Int) : Option (List Int) := if a0.length = 15 then some (seg a0 1 14) else none
def impl_Root_pointers.T1 : Bool × List (List Nat × List Nat) := (true, [([], []), ([], []), ([1], [1]), ([0, 2], [0, 2]), ([], []), ([4], [4]), ([], []), ([6], [6]), ([5, 7], [5, 7]), ([3, 8, 3], [3, 8]), ([9, 9, 0, 1, 2, 3, 4, 5, 6, 7, 8, 9], [9])])
def impl_Root_pointers.B1 : List Nat := [0, 0, 2, 7, 0, 16, 0, 64, 240, 511, 1023]
theorem impl_Root_pointers.tab1 : rtab .any (opsOf Try.f72 1) = impl_Root_pointers.T1 := by kernel_rfl
theorem impl_Root_pointers.bits1 : waitsOk impl_Root_pointers.T1.2 impl_Root_pointers.B1 = true := by kernel_rfl
set_option maxHeartbeats 8000000 in
set_option maxRecDepth 100000 in
theorem impl_Root_pointers.calls (a0 : List Int) (n0 : a0.length = 15) (r : List Int) (w : World) (h : impl_Root_pointers.f a0 = some r) :
    Calls Try.prog 72 #[.agg (nums .i64 a0).toArray] w fun e w' => ∃ v0_ : Value, e = .returned (v0_) ∧ Kd.R (Kd.int .i64) 3 w' w.heap.size (fun _ => True) v0_ r ∧ Below w.heap.size w w' := by
  unfold impl_Root_pointers.f at h
  rw [if_pos n0] at h
  obtain rfl := Option.some.inj h
  have N_ := Aside0.mk n0
  clear n0 h
  have info3_ : (Try.prog.info? 3).map (fun i => (i.zero, i.size, i.bytes)) = some (some (.int .i64 0), 1, 8) := by kernel_rfl
  have hu22 := Try.underlying22
  have HB0 : Aside0 (Below w.heap.size w w) := ⟨Below.refl _ _⟩
  obtain ⟨s0, Sz0⟩ : ∃ s0, Aside0 (w.heap.size = s0) := ⟨_, ⟨rfl⟩⟩
  have hw0 : w.heap.size ≤ s0 := Nat.le_of_eq Sz0.out
  have hw1 : s0 ≤ w.heap.size := Nat.le_of_eq Sz0.out.symm
  go_enter Try.func72, Try.ntmps72
  go_wp2_with (first | ((with_reducible refine gate_dst (N := 1) rfl ?_); refine hx_box rfl 1 rfl 28 (.tmp 0) rfl Sz0 (.agg (nums .i64 a0).toArray) (nums .i64 a0).toArray rfl rfl ?_; intro w1 s1 L1 Sz1 b1 g_; have H0 := Aside0.mk g_; have HB1 := Aside0.mk (below_then HB0.out HB0.out.size b1); clear g_ HB0 b1))
  have HB := HB1
  have FV := HB1
  refine start_ (n := 11) (S := fun w' => True) (ds := []) #[false, false, false, false, false, false, false, false, false, false, false] (by kernel_rfl) rfl rfl trivial (fun hHeld => ?_)
  refine with_tabW impl_Root_pointers.tab1 impl_Root_pointers.bits1 (fun HT_ HW_ => ?_)
  refine pure_ (i := 1) (N := some 4) (v := ?_) (a' := ?_) #[false, true, false, false, false, false, false, false, false, false, false] rfl rfl (any_of HT_.out (by kernel_rfl)) (fun _ _ _ h => h) (Or.inl ⟨by rfl, ?_⟩) ?_ ?_
  rotate_left
  · intro w'
    go_simp
    with_reducible rfl
  rotate_left
  · simp only [Act.put, List.setIfInBounds_toArray, List.set_cons_zero, List.set_cons_succ, i64_w, i32_w]
    rfl
  refine pure_ (i := 2) (N := some 5) (v := ?_) (a' := ?_) #[false, true, true, false, false, false, false, false, false, false, false] rfl rfl (any_of HT_.out (by kernel_rfl)) (fun _ _ _ h => h) (Or.inl ⟨by rfl, ?_⟩) ?_ ?_
  rotate_left
  · intro w'
    go_simp
    with_reducible rfl
  rotate_left
  · simp only [Act.put, List.setIfInBounds_toArray, List.set_cons_zero, List.set_cons_succ, i64_w, i32_w]
    rfl
  refine pure_ (i := 4) (N := some 7) (v := ?_) (a' := ?_) #[false, true, true, false, true, false, false, false, false, false, false] rfl rfl (any_of HT_.out (by kernel_rfl)) (fun _ _ _ h => h) (Or.inl ⟨by rfl, ?_⟩) ?_ ?_
  rotate_left
  · intro w'
    go_simp
    with_reducible rfl
  rotate_left
  · simp only [Act.put, List.setIfInBounds_toArray, List.set_cons_zero, List.set_cons_succ, i64_w, i32_w]
    rfl
  refine pure_ (i := 6) (N := some 9) (v := ?_) (a' := ?_) #[false, true, true, false, true, false, true, false, false, false, false] rfl rfl (any_of HT_.out (by kernel_rfl)) (fun _ _ _ h => h) (Or.inl ⟨by rfl, ?_⟩) ?_ ?_
  rotate_left
  · intro w'
    go_simp
    with_reducible rfl
  rotate_left
  · simp only [Act.put, List.setIfInBounds_toArray, List.set_cons_zero, List.set_cons_succ, i64_w, i32_w]
    rfl
  refine inv_at [0, 3, 5, 7, 8, 9, 10] (fun a0_ b a w' => ∃ (v0 : Value) (v3 : Value) (v8 : Value) (v9 : Value) (m10_ : Value), a = putSel a0_ b [(0, 3, v0), (3, 6, v3), (5, 8, .int .i64 (a0.getD 13 0)), (7, 10, .int .i64 (a0.getD 14 0)), (8, 11, v8), (9, 12, v9), (10, 2, m10_)] ∧ (Below w.heap.size w w') ∧ (w'.heap[s0]? = some (.cells (nums .i64 a0).toArray 28 (0, 0))) ∧ (∀ k, (v0 : Value).ownBlock = some k → k < w'.heap.size) ∧ (b 0 = true → b 3 = false → Kd.R (Kd.int .i64) 3 w' w.heap.size (fun k => k ≠ s0) v0 []) ∧ (b 3 = true → b 9 = false → Kd.R (Kd.int .i64) 3 w' w.heap.size (fun k => k ≠ s0) v3 ([] ++ seg a0 1 12)) ∧ (b 8 = true → b 9 = false → Kd.R (Kd.int .i64) 3 w' w.heap.size (fun k => k ≠ s0 ∧ some k ≠ (v0 : Value).ownBlock) v8 [a0.getD 13 0, a0.getD 14 0]) ∧ (b 9 = true → Kd.R (Kd.int .i64) 3 w' w.heap.size (fun k => k ≠ s0) v9 (([] ++ seg a0 1 12) ++ [a0.getD 13 0, a0.getD 14 0])) ∧ (b 10 = true → (m10_ : Value) = v9)) HT_.out HW_.out (by kernel_rfl) (by kernel_rfl) ?_ ?_ ?_
  · exact ⟨.bool false, .bool false, .bool false, .bool false, .bool false, by simp only [putSel, Bool.false_eq_true, if_false], HB1.out.drew, blk_drew H0.out, fun k h_ => by simp [Value.ownBlock] at h_, fun h_ => absurd h_ (by decide), fun h_ => absurd h_ (by decide), fun h_ => absurd h_ (by decide), fun h_ => absurd h_ (by decide), fun h_ => absurd h_ (by decide)⟩
  · skip
    clear FV H0 HB
    refine steps_cons ?_ ?_
    · rintro b a w' ⟨v0, v3, v8, v9, m10_, ha, Q_HB, Q_H0, Q_FV, Q_F0, Q_F3, Q_F8, Q_F9, Q_X10_⟩ hb_ hon hoff
      refine ⟨_, rfl, fun K hK => ?_⟩
      replace ha := Aside0.mk ha
      have HB := Aside0.mk Q_HB
      have H0 := Aside0.mk Q_H0
      have FV := Aside0.mk Q_FV
      refine Kd.R_lit_step (Kd.int .i64) (w0 := w) w.heap.size 3 (by rfl) (N := 3) rfl (xs := ([] : List Int)) (inner := []) (ok := fun k => k ≠ s0) (okp := fun _ => False) ?hr (Reps.none _ _) (fun _ h_ => h_.elim) (by have := blk_lt H0.out; omega) HB.out HB.out.size (by simp) ?_
      (case hr => first | (go_simp; done) | (go_simp; rfl))
      intro v_ w_ ho hb hg_ hn_
      refine hK.out _ _ ⟨v_, v3, v8, v9, m10_, (by rw [ha.out]; exact putSel_upk 0 hb_ rfl rfl rfl), hb, blk_grown H0.out hg_ (by simp), Kd.R_lt ho, fun _ _ => ho, fun h0_ _ => absurd ((hoff 3 (by kernel_rfl)).symm.trans h0_) (by decide), fun h0_ h1_ => Kd.R_mono (Kd.R_grown (Kd.R_bound (Q_F8 h0_ h1_)) hg_ (fun _ _ => by simp)) (fun k hk => ⟨hk.1.1, fun e_ => by obtain ⟨b_, h1_, h2_⟩ := hn_; rw [h1_] at e_; injection e_ with e_; have := hk.2.2.1; omega⟩), fun h0_ => absurd ((hoff 9 (by kernel_rfl)).symm.trans h0_) (by decide), fun h0_ => absurd ((hoff 10 (by kernel_rfl)).symm.trans h0_) (by decide)⟩
    refine steps_cons ?_ ?_
    · rintro b a w' ⟨v0, v3, v8, v9, m10_, ha, Q_HB, Q_H0, Q_FV, Q_F0, Q_F3, Q_F8, Q_F9, Q_X10_⟩ hb_ hon hoff
      refine ⟨_, rfl, fun K hK => ?_⟩
      have e3 : a.tmps[3]? = some (v0) := by rw [ha]; exact putSel_on (e := (0, 3, v0)) 0 rfl rfl (hon 0 (by kernel_rfl)) rfl
      have e5 : a.tmps[5]? = some (.slice (some ⟨s0, 1, none⟩) 12 12) := by rw [ha]; exact (putSel_off rfl).trans rfl
      replace ha := Aside0.mk ha
      have HB := Aside0.mk Q_HB
      have H0 := Aside0.mk Q_H0
      have FV := Aside0.mk Q_FV
      have F0 := Aside0.mk (Q_F0 (hon 0 (by kernel_rfl)) hb_)
      refine Kd.R_append_rows_step (Kd.int .i64) (w0 := w) w.heap.size (by rfl) (.tmp 3) (.tmp 5) 82 3 (.int .i64 0) 8 rfl Try.underlying82 info3_ rfl (by decide) (by omega) v0 [] (seg a0 1 12) (some ⟨s0, 1, none⟩) 12 12 (fun k => k ≠ s0) (fun _ => False) (eval_of e3) (eval_of e5) F0.out (part_reads H0.out 1 12 (le_len (n := 15) N_.out (by decide)) (by decide)) (fun _ _ h => h) (fun _ h => h.elim) (fun k hk => by have := blk_lt H0.out; omega) HB.out HB.out.size (by decide) ?_
      intro v_ w_ ho hb hg_ hn_
      refine hK.out _ _ ⟨v0, v_, v8, v9, m10_, (by rw [ha.out]; exact putSel_upk 1 hb_ rfl rfl rfl), hb, blk_grown H0.out hg_ (fun e_ => (F0.out.1 s0 e_.symm) rfl), fun k hk => Nat.lt_of_lt_of_le (FV.out k hk) hg_.size, fun _ h1_ => absurd ((up_self b 3).symm.trans h1_) (by decide), fun _ _ => ho, fun h0_ h1_ => Kd.R_grown (Q_F8 h0_ h1_) hg_ (fun k hk => hk.2), fun h0_ => absurd ((hoff 9 (by kernel_rfl)).symm.trans h0_) (by decide), fun h0_ => absurd ((hoff 10 (by kernel_rfl)).symm.trans h0_) (by decide)⟩
    refine steps_cons ?_ ?_
    · rintro b a w' ⟨v0, v3, v8, v9, m10_, ha, Q_HB, Q_H0, Q_FV, Q_F0, Q_F3, Q_F8, Q_F9, Q_X10_⟩ hb_ hon hoff
      refine ⟨_, rfl, fun K hK => ?_⟩
      have e7 : a.tmps[7]? = some (.pointer (some ⟨s0, 13, none⟩)) := by rw [ha]; exact (putSel_off rfl).trans rfl
      replace ha := Aside0.mk ha
      have HB := Aside0.mk Q_HB
      have H0 := Aside0.mk Q_H0
      have FV := Aside0.mk Q_FV
      have c_ := row_cell H0.out 13 (lt_len (n := 15) N_.out (by decide))
      refine value_ (w1 := w') (v := .int .i64 (a0.getD 13 0)) (by rfl) rfl ?_ ?_
      · go_simp
        (try simp only [i64_w])
        try rfl
      refine hK.out _ _ ⟨v0, v3, v8, v9, m10_, (by rw [ha.out]; exact putSel_upk 2 hb_ rfl rfl rfl), Q_HB, Q_H0, Q_FV, Q_F0, Q_F3, fun h0_ _ => absurd ((hoff 8 (by kernel_rfl)).symm.trans h0_) (by decide), fun h0_ => absurd ((hoff 9 (by kernel_rfl)).symm.trans h0_) (by decide), fun h0_ => absurd ((hoff 10 (by kernel_rfl)).symm.trans h0_) (by decide)⟩
    refine steps_cons ?_ ?_
    · rintro b a w' ⟨v0, v3, v8, v9, m10_, ha, Q_HB, Q_H0, Q_FV, Q_F0, Q_F3, Q_F8, Q_F9, Q_X10_⟩ hb_ hon hoff
      refine ⟨_, rfl, fun K hK => ?_⟩
      have e9 : a.tmps[9]? = some (.pointer (some ⟨s0, 14, none⟩)) := by rw [ha]; exact (putSel_off rfl).trans rfl
      replace ha := Aside0.mk ha
      have HB := Aside0.mk Q_HB
      have H0 := Aside0.mk Q_H0
      have FV := Aside0.mk Q_FV
      have c_ := row_cell H0.out 14 (lt_len (n := 15) N_.out (by decide))
      refine value_ (w1 := w') (v := .int .i64 (a0.getD 14 0)) (by rfl) rfl ?_ ?_
      · go_simp
        (try simp only [i64_w])
        try rfl
      refine hK.out _ _ ⟨v0, v3, v8, v9, m10_, (by rw [ha.out]; exact putSel_upk 3 hb_ rfl rfl rfl), Q_HB, Q_H0, Q_FV, Q_F0, Q_F3, fun h0_ _ => absurd ((hoff 8 (by kernel_rfl)).symm.trans h0_) (by decide), fun h0_ => absurd ((hoff 9 (by kernel_rfl)).symm.trans h0_) (by decide), fun h0_ => absurd ((hoff 10 (by kernel_rfl)).symm.trans h0_) (by decide)⟩
    refine steps_cons ?_ ?_
    · rintro b a w' ⟨v0, v3, v8, v9, m10_, ha, Q_HB, Q_H0, Q_FV, Q_F0, Q_F3, Q_F8, Q_F9, Q_X10_⟩ hb_ hon hoff
      refine ⟨_, rfl, fun K hK => ?_⟩
      have e8 : a.tmps[8]? = some (.int .i64 (a0.getD 13 0)) := by rw [ha]; exact putSel_on (e := (5, 8, .int .i64 (a0.getD 13 0))) 2 rfl rfl (hon 5 (by kernel_rfl)) rfl
      have e10 : a.tmps[10]? = some (.int .i64 (a0.getD 14 0)) := by rw [ha]; exact putSel_on (e := (7, 10, .int .i64 (a0.getD 14 0))) 3 rfl rfl (hon 7 (by kernel_rfl)) rfl
      replace ha := Aside0.mk ha
      have HB := Aside0.mk Q_HB
      have H0 := Aside0.mk Q_H0
      have FV := Aside0.mk Q_FV
      refine Kd.R_lit_step (Kd.int .i64) (w0 := w) w.heap.size 3 (by rfl) (N := 11) rfl (xs := ([a0.getD 13 0, a0.getD 14 0] : List Int)) (inner := (nums .i64 [a0.getD 13 0, a0.getD 14 0])) (ok := fun k => k ≠ s0 ∧ some k ≠ (v0 : Value).ownBlock) (okp := fun _ => False) ?hr (reps_ints _) (fun _ h_ => h_.elim) ⟨by have := blk_lt H0.out; omega, fun e_ => Nat.lt_irrefl _ (FV.out _ e_.symm)⟩ HB.out HB.out.size (by simp) ?_
      (case hr => first | (go_simp; done) | (go_simp; rfl))
      intro v_ w_ ho hb hg_ hn_
      refine hK.out _ _ ⟨v0, v3, v_, v9, m10_, (by rw [ha.out]; exact putSel_upk 4 hb_ rfl rfl rfl), hb, blk_grown H0.out hg_ (by simp), fun k hk => Nat.lt_of_lt_of_le (FV.out k hk) hg_.size, fun h0_ h1_ => Kd.R_grown (Q_F0 h0_ h1_) hg_ (fun _ _ => by simp), fun h0_ h1_ => Kd.R_grown (Q_F3 h0_ h1_) hg_ (fun _ _ => by simp), fun _ _ => ho, fun h0_ => absurd ((hoff 9 (by kernel_rfl)).symm.trans h0_) (by decide), fun h0_ => absurd ((hoff 10 (by kernel_rfl)).symm.trans h0_) (by decide)⟩
    refine steps_cons ?_ ?_
    · rintro b a w' ⟨v0, v3, v8, v9, m10_, ha, Q_HB, Q_H0, Q_FV, Q_F0, Q_F3, Q_F8, Q_F9, Q_X10_⟩ hb_ hon hoff
      refine ⟨_, rfl, fun K hK => ?_⟩
      have e6 : a.tmps[6]? = some (v3) := by rw [ha]; exact putSel_on (e := (3, 6, v3)) 1 rfl rfl (hon 3 (by kernel_rfl)) rfl
      have e11 : a.tmps[11]? = some (v8) := by rw [ha]; exact putSel_on (e := (8, 11, v8)) 4 rfl rfl (hon 8 (by kernel_rfl)) rfl
      replace ha := Aside0.mk ha
      have HB := Aside0.mk Q_HB
      have H0 := Aside0.mk Q_H0
      have FV := Aside0.mk Q_FV
      have F3 := Aside0.mk (Q_F3 (hon 3 (by kernel_rfl)) hb_)
      have F8 := Aside0.mk (Q_F8 (hon 8 (by kernel_rfl)) hb_)
      obtain ⟨A8_, c8_, q8_⟩ := Kd.R_slice F8.out
      have F8' := F8.out
      rw [q8_] at F8'
      refine Kd.R_append_rows_step (Kd.int .i64) (w0 := w) w.heap.size (by rfl) (.tmp 6) (.tmp 11) 82 3 (.int .i64 0) 8 rfl Try.underlying82 info3_ rfl (by decide) (by omega) v3 ([] ++ seg a0 1 12) [a0.getD 13 0, a0.getD 14 0] _ _ _ (fun k => k ≠ s0) (fun _ => False) (eval_of e6) ((eval_of e11).trans q8_) F3.out (Kd.R_reads' F8').2.2 (fun _ _ h => h) (fun _ h => h.elim) (fun k hk => by have := blk_lt H0.out; omega) HB.out HB.out.size (by rw [List.nil_append, part_len (n := 15) N_.out (by decide)]; show (12 + 2) * 8 ≤ 140737488355328; decide) ?_
      intro v_ w_ ho hb hg_ hn_
      refine hK.out _ _ ⟨v0, v3, v8, v_, m10_, (by rw [ha.out]; exact putSel_upk 5 hb_ rfl rfl rfl), hb, blk_grown H0.out hg_ (fun e_ => (F3.out.1 s0 e_.symm) rfl), fun k hk => Nat.lt_of_lt_of_le (FV.out k hk) hg_.size, fun _ h1_ => absurd ((hon 3 (by kernel_rfl)).symm.trans h1_) (by decide), fun _ h1_ => absurd ((up_self b 9).symm.trans h1_) (by decide), fun _ h1_ => absurd ((up_self b 9).symm.trans h1_) (by decide), fun _ => ho, fun h0_ => absurd ((hoff 10 (by kernel_rfl)).symm.trans h0_) (by decide)⟩
    refine steps_cons ?_ ?_
    · rintro b a w' ⟨v0, v3, v8, v9, m10_, ha, Q_HB, Q_H0, Q_FV, Q_F0, Q_F3, Q_F8, Q_F9, Q_X10_⟩ hb_ hon hoff
      refine ⟨_, rfl, fun K hK => ?_⟩
      have e12 : a.tmps[12]? = some (v9) := by rw [ha]; exact putSel_on (e := (9, 12, v9)) 5 rfl rfl (hon 9 (by kernel_rfl)) rfl
      replace ha := Aside0.mk ha
      have HB := Aside0.mk Q_HB
      have H0 := Aside0.mk Q_H0
      have FV := Aside0.mk Q_FV
      have F9 := Aside0.mk (Q_F9 (hon 9 (by kernel_rfl)))
      refine value_ (w1 := w') (v := v9) (by rfl) rfl ?_ ?_
      · go_simp
        (try simp only [i64_w])
        try rfl
      refine hK.out _ _ ⟨v0, v3, v8, v9, (v9), (by rw [ha.out]; exact putSel_upk 6 hb_ rfl rfl rfl), Q_HB, Q_H0, Q_FV, fun _ h1_ => absurd ((hon 3 (by kernel_rfl)).symm.trans h1_) (by decide), fun _ h1_ => absurd ((hon 9 (by kernel_rfl)).symm.trans h1_) (by decide), fun _ h1_ => absurd ((hon 9 (by kernel_rfl)).symm.trans h1_) (by decide), Q_F9, fun _ => rfl⟩
    exact steps_nil
  · rintro b a w' hall ⟨v0, v3, v8, v9, m10_, ha, Q_HB, Q_H0, Q_FV, Q_F0, Q_F3, Q_F8, Q_F9, Q_X10_⟩
    clear FV H0 HB
    have hb0_ := hall 0 (by kernel_rfl)
    have hb3_ := hall 3 (by kernel_rfl)
    have hb5_ := hall 5 (by kernel_rfl)
    have hb7_ := hall 7 (by kernel_rfl)
    have hb8_ := hall 8 (by kernel_rfl)
    have hb9_ := hall 9 (by kernel_rfl)
    have hb10_ := hall 10 (by kernel_rfl)
    subst ha
    obtain rfl := Q_X10_ hb10_
    simp only [putSel, hb0_, hb3_, hb5_, hb7_, hb8_, hb9_, hb10_, if_true, Act.put, List.setIfInBounds_toArray, List.set_cons_zero, List.set_cons_succ]
    have HB := Aside0.mk Q_HB
    clear Q_HB
    have H0 := Aside0.mk Q_H0
    clear Q_H0
    have FV := Aside0.mk Q_FV
    clear Q_FV
    clear Q_F0
    clear Q_F3
    clear Q_F8
    have F9 := Aside0.mk (Q_F9 hb9_)
    clear Q_F9
    clear hall hb0_ hb3_ hb5_ hb7_ hb8_ hb9_ hb10_
    go_wp2
    go_ret
    have ho := F9.out
    rw [pointers_of a0 N_.out] at ho
    exact ⟨_, rfl, Kd.R_mono ho (fun _ _ => trivial), HB.out⟩

open Go.Proofs.YtkghgjehjchajaaW Go.Proofs.YtkghgjehjchajaaW.PrintHand Go.Proofs.YtkghgjehjchajaaW.PrintHx
/-! ### impl_Root_put: function 45 -/
open Go.Proofs.YtkghgjehjchajaaW.PrintLe
theorem put_l0 (v : Int) (at_ size : Nat) (h0 : 0 ≤ v) (h1 : v ≤ 9223372036854775807) (h8 : size ≤ 8) : ∀ (d i k : Nat) (x0 : List Int), i + d = size → d < k → at_ + size ≤ x0.length → x0.length ≤ 1048576 → impl_put_int.l0 k x0 (at_ : Int) v (size : Int) (i : Int) = some (x0.take (at_ + i) ++ leB (v / 256 ^ i) d ++ x0.drop (at_ + size))
  | 0, i, k, x0, e1, e2, e3, e4 => by
    obtain ⟨k, rfl⟩ := sucK e2
    simp only [impl_put_int.l0]
    rw [if_neg (by omega), show at_ + i = at_ + size by omega]
    simp [leB]
  | d + 1, i, k, x0, e1, e2, e3, e4 => by
    obtain ⟨k, rfl⟩ := sucK e2
    simp only [impl_put_int.l0]
    have hw : wrap64 ((at_ : Int) + (i : Int)) = ((at_ + i : Nat) : Int) := by unfold wrap64; omega
    have h8i : wrap64 (8 * (i : Int)) = ((8 * i : Nat) : Int) := by unfold wrap64; omega
    rw [hw, h8i, if_pos (by omega), if_pos (by omega), if_pos (by omega), if_pos (by omega), w64n (by omega), put_l0 v at_ size h0 h1 h8 d (i + 1) k _ (by omega) (by omega) (by simpa using e3) (by simpa using e4)]
    have hv : (shr .u64 (IntKind.u64.wrap v) ((8 * i : Nat) : Int)) % 256 = v / 256 ^ i % 256 := by
      rw [wraps_u64 _ h0 (by omega)]
      unfold shr
      rw [Int.toNat_natCast, Nat.min_eq_left (by simp [IntKind.bits]; omega), Int.pow_mul, show (2 : Int) ^ 8 = 256 by decide]
    rw [hv, Int.toNat_natCast]
    congr 1
    have hlt : at_ + i < x0.length := by omega
    rw [show at_ + (i + 1) = (at_ + i) + 1 by omega, List.take_succ_eq_append_getElem (by simpa using hlt), List.getElem_set_self, List.take_set_of_le (Nat.le_refl _), List.drop_set_of_lt (by omega), leB, Int.ediv_ediv_of_nonneg (by have := p256 i; omega), ← Int.pow_succ]
    simp
/-- put: a number's bytes at a place -/
theorem put_f (x0 : List Int) (at_ size : Nat) (v : Int) (h0 : 0 ≤ v) (h1 : v ≤ 9223372036854775807) (h8 : size ≤ 8) (hat : at_ + size ≤ x0.length) (hx : x0.length ≤ 1048576) (k : Nat) (hk : 8 < k) : impl_put_int.f k x0 (at_ : Int) (size : Int) v = some (x0.take at_ ++ leB v size ++ x0.drop (at_ + size)) := by
  unfold impl_put_int.f
  have h := put_l0 v at_ size h0 h1 h8 size 0 k x0 (by omega) (by omega) hat hx
  rw [Int.pow_zero, Int.ediv_one] at h
  exact h

def impl_Root_put.f (a0 l1 : List Int) : Option (List Int) := if rootGood a0 = true ∧ 64 ≤ l1.length ∧ l1.length ≤ 1048576 then some (rootBytes a0 ++ l1.drop 64) else none
theorem impl_Root_put.step (s : Int) (xs l1 : List Int) (j : Nat) (hx : xs.length = 14) (hj : j < 14) (hl : 64 ≤ l1.length) (p : Int) (hp : p = xs.getD j 0) :
    let ls := leB s 8 ++ flat4 (xs.take j) ++ l1.drop (8 + 4 * j)
    ls.take (8 + 4 * j) ++ leB p 4 ++ ls.drop (8 + 4 * j + 4) = leB s 8 ++ flat4 (xs.take (j + 1)) ++ l1.drop (8 + 4 * (j + 1)) := by
  intro ls
  have h1 : (leB s 8 ++ flat4 (xs.take j)).length = 8 + 4 * j := by rw [List.length_append, leB_length, flat4_length, List.length_take, hx, Nat.min_eq_left (by omega)]
  have e1 : ls.take (8 + 4 * j) = leB s 8 ++ flat4 (xs.take j) := by rw [← h1]; exact List.take_left
  have e2 : ls.drop (8 + 4 * j + 4) = l1.drop (8 + 4 * (j + 1)) := by
    show (leB s 8 ++ flat4 (xs.take j) ++ l1.drop (8 + 4 * j)).drop (8 + 4 * j + 4) = _
    rw [List.drop_append, h1, List.drop_eq_nil_of_le (by rw [h1]; omega), List.nil_append, List.drop_drop]
    congr 1
    omega
  rw [e1, e2, flat4_take xs j (by omega), hp, List.append_assoc (leB s 8)]
theorem impl_Root_put.len (s : Int) (xs l1 : List Int) (j : Nat) (hx : xs.length = 14) (hj : j < 14) (hl : 64 ≤ l1.length) : (leB s 8 ++ flat4 (xs.take j) ++ l1.drop (8 + 4 * j)).length = l1.length := by
  rw [List.length_append, List.length_append, leB_length, flat4_length, List.length_take, hx, Nat.min_eq_left (by omega), List.length_drop]
  omega
theorem impl_Root_put.at_ (j : Nat) (hj : j < 14) : wrap64 (8 + wrap64 (4 * (j : Int))) = ((8 + 4 * j : Nat) : Int) := by
  unfold wrap64
  omega
theorem below_then2 {B : Nat} {w w1 w2 : World} (h : Below B w w1) (hB : B ≤ w1.heap.size) (k : Below w1.heap.size w1 w2) : Below B w w2 := below_then h hB k
set_option maxHeartbeats 8000000 in
set_option maxRecDepth 100000 in
theorem impl_Root_put.calls (a0 : List Int) (n0 : a0.length = 15) (P0_ : Nat → Prop) (u9000_ : Value) (l1 : List Int) (r : List Int) (w0 w : World) (hB : Below w0.heap.size w0 w) (ho1 : Kd.R (Kd.int .u8) 5 w w0.heap.size P0_ u9000_ l1) (h : impl_Root_put.f a0 l1 = some r) :
    Calls Try.prog 45 #[.agg (nums .i64 a0).toArray, u9000_] w fun e w' => e = .returned (.tuple #[]) ∧ Kd.R (Kd.int .u8) 5 w' w0.heap.size P0_ u9000_ r ∧ Below w0.heap.size w0 w' ∧ Kept w w' (fun k_ => P0_ k_) := by
  unfold impl_Root_put.f at h
  by_cases hgood : rootGood a0 = true ∧ 64 ≤ l1.length ∧ l1.length ≤ 1048576
  case neg => rw [if_neg hgood] at h; cases h
  rw [if_pos hgood] at h
  obtain rfl := Option.some.inj h
  have N_ := Aside0.mk n0
  have HG := Aside0.mk hgood.1
  have HL := Aside0.mk hgood.2
  have hle := hB.size
  have HB0 := Aside0.mk hB
  obtain ⟨s0, Sz0⟩ : ∃ s0, Aside0 (w.heap.size = s0) := ⟨_, ⟨rfl⟩⟩
  have hs0 : s0 = w.heap.size := Sz0.out.symm
  have O0 := Aside0.mk (show Kd.R (Kd.int .u8) 5 w w0.heap.size (fun k => P0_ k ∧ k < s0) u9000_ l1 from Kd.R_mono (Kd.R_bound ho1) (fun k hk => ⟨hk.1, by rw [hs0]; exact hk.2.2.1⟩))
  have hlt0 : w0.heap.size ≤ s0 := by rw [hs0]; exact hle
  clear hs0
  have hu28 := Try.underlying28
  clear n0 h hgood ho1 hB
  obtain ⟨s, hs⟩ : ∃ s, s = a0.getD 0 0 := ⟨_, rfl⟩
  have hs1 : 0 ≤ s ∧ s ≤ 262144 := by rw [hs]; exact rootGood_size HG.out
  have HS := Aside0.mk hs
  have HP8 := Aside0.mk (show impl_put_int.f 20 l1 0 8 s = some (l1.take 0 ++ leB s 8 ++ l1.drop (0 + 8)) from put_f l1 0 8 s hs1.1 (by omega) (by decide) (by have := HL.out; omega) (by have := HL.out; omega) 20 (by decide))
  clear hs hs1
  obtain ⟨xs, hxs⟩ : ∃ xs, xs = seg a0 1 14 := ⟨_, rfl⟩
  have HP := Aside0.mk (show impl_Root_pointers.f a0 = some xs by rw [hxs]; exact if_pos N_.out)
  have HXL := Aside0.mk (show xs.length = 14 by rw [hxs]; exact part_len (n := 15) N_.out (by decide))
  have HXS := Aside0.mk hxs
  have HXR := Aside0.mk (show ∀ j, j < 14 → 0 ≤ xs.getD j 0 ∧ xs.getD j 0 < 2048 by rw [hxs]; exact fun j hj => rootGood_ptr HG.out j hj)
  clear hxs
  have hle0 : w0.heap.size ≤ s0 := hlt0
  go_enter Try.func45, Try.ntmps45
  go_wp2_with (first | ((with_reducible refine gate_dst (N := 2) rfl ?_); refine hx_box rfl 2 rfl 28 (.tmp 0) rfl Sz0 (.agg (nums .i64 a0).toArray) (nums .i64 a0).toArray rfl rfl ?_; intro w1 s1 L1 Sz1 b1 g_; have H1 := Aside0.mk g_; have HB1 := Aside0.mk (below_then2 HB0.out hle b1); have KP1 := Aside0.mk (Kept.of_below b1 P0_); have O1 := Aside0.mk (Kd.R_below O0.out b1); clear g_ b1 HB0 O0) | ((with_reducible refine gate_dst (N := 8) rfl ?_); refine hx_loadf rfl 3 (.tmp 7) rfl s0 0 rfl Try.underlying3 rfl H1.out (lt_len (n := 15) N_.out (by decide)) ?_; rw [← HS.out]) | ((with_reducible refine gate_dst (N := 9) rfl ?_); refine goesL_ (some 9) rfl rfl Try.func53 (by kernel_rfl) rfl #[u9000_, .int .i64 0, .int .i64 8, .int .i64 s] rfl (by (try simp only [List.map_toArray, List.map_cons, List.map_nil]); first | done | rfl) ?_; refine (impl_put_int.calls 20 (fun k => P0_ k ∧ k < s0) u9000_ l1 0 8 s _ w0 w1 HB1.out O1.out HP8.out).mono ?_; rintro e_ w2 ⟨rfl, R_, hb_, kp_⟩; refine ⟨_, rfl, ?_⟩; have O2 := own_same R_ O1.out rfl; have HB2 := Aside0.mk hb_; have KP2 := Aside0.mk (KP1.out.then_ kp_ (fun k hk => .inl hk.1)); have H2 := Aside0.mk (blk_kept H1.out kp_ (fun hk => by have := hk.2; omega)); obtain ⟨s2, L2, Sz2⟩ := size_letter Sz1 kp_; clear R_ hb_ kp_ O1 HB1 KP1 H1) | ((with_reducible refine gate_dst (N := 10) rfl ?_); refine hx_load rfl 28 (.tmp 2) rfl s0 15 rfl Try.underlying28 rfl (by kernel_rfl) H2.out (nums_size _ _ _ N_.out) ?_) | ((with_reducible refine gate_dst (N := 11) rfl ?_); refine goesL_ (some 11) rfl rfl Try.func72 (by kernel_rfl) rfl #[.agg (nums .i64 a0).toArray] rfl (by (try simp only [List.map_toArray, List.map_cons, List.map_nil]); first | done | rfl) ?_; refine (impl_Root_pointers.calls a0 N_.out xs _ HP.out).mono ?_; rintro e_ w3 ⟨v0_, rfl, R_, b_⟩; obtain ⟨A11, c11, rfl⟩ := Kd.R_slice R_; refine ⟨_, rfl, ?_⟩; obtain ⟨s3, L3, Sz3⟩ := size_letter Sz2 (kept_below b_); have OP := own_btw (B := w0.heap.size) R_ Sz2.out Sz3 (by have := Sz2.out; omega); have O3 := Aside0.mk (Kd.R_below O2.out b_); have HB3 := Aside0.mk (below_then2 HB2.out (by have := Sz2.out; omega) b_); have KP3 := Aside0.mk (KP2.out.below b_); clear R_ b_ O2 HB2 KP2 H2))
  (try simp only [Act.put, List.setIfInBounds_toArray, List.set_cons_succ, List.set_cons_zero])
  go_loopw [13] (fun v13 wr => ∃ j : Nat, v13 = .int .i64 (j : Int) ∧ Aside0 (j ≤ 14) ∧ Aside0 (Kd.R (Kd.int .u8) 5 wr w0.heap.size (fun k => P0_ k ∧ k < s0) u9000_ (leB s 8 ++ flat4 (xs.take j) ++ l1.drop (8 + 4 * j))) ∧ Aside0 (Kd.R (Kd.int .i64) 3 wr w0.heap.size (Btw s2 s3) (.slice A11 xs.length c11) xs) ∧ Aside0 (Below w0.heap.size w0 wr) ∧ Aside0 (Kept w wr P0_)) (fun v13 _ => 14 - (intOf v13).toNat)
  case atStart => exact ⟨0, rfl, ⟨by omega⟩, ⟨by have := O3.out; simpa [flat4] using this⟩, OP, HB3, KP3⟩
  case round =>
    clear O3 OP HB3 KP3
    obtain ⟨j, rfl, hj, OO0, OP, HB, KP⟩ := hrel
    by_cases c9 : j < 14
    · have c9b0 : decide ((j : Int) < (xs.length : Int)) = true := decide_eq_true (by rw [HXL.out]; omega)
      have c9b1 : decide (j < xs.length) = true := decide_eq_true (by rw [HXL.out]; omega)
      have p112 : 0 ≤ (j : Int) := by omega
      have q112 : (j : Int) < (xs.length : Int) := by rw [HXL.out]; omega
      obtain ⟨ad112, e112, hx112⟩ := Kd.at_int (Kd.R_reads' OP.out).2.2 (j : Int) p112 q112
      cases e112
      rw [Int.toNat_natCast] at hx112
      replace p112 := eq_true p112
      replace q112 := eq_true q112
      have q113 : (j < xs.length) = True := eq_true (by rw [HXL.out]; omega)
      obtain ⟨p, hp⟩ : ∃ p, p = rd xs (j : Int) := ⟨_, rfl⟩
      rw [← hp] at hx112
      have HPV := Aside0.mk (show p = xs.getD j 0 by rw [hp, rd, Int.toNat_natCast])
      have hpr : 0 ≤ p ∧ p < 2048 := by rw [HPV.out]; exact HXR.out j c9
      obtain ⟨ls, hls⟩ : ∃ ls, ls = leB s 8 ++ flat4 (xs.take j) ++ l1.drop (8 + 4 * j) := ⟨_, rfl⟩
      have hll : ls.length = l1.length := by rw [hls]; exact impl_Root_put.len s xs l1 j HXL.out c9 HL.out.1
      obtain ⟨at_, hat⟩ : ∃ a, a = wrap64 (8 + wrap64 (4 * (j : Int))) := ⟨_, rfl⟩
      have hat2 : at_ = ((8 + 4 * j : Nat) : Int) := by rw [hat]; exact impl_Root_put.at_ j c9
      have HP4 := Aside0.mk (show impl_put_int.f 20 ls at_ 4 p = some (ls.take (8 + 4 * j) ++ leB p 4 ++ ls.drop (8 + 4 * j + 4)) by rw [hat2]; exact put_f ls (8 + 4 * j) 4 p hpr.1 (Int.le_of_lt (Int.lt_trans hpr.2 (by decide))) (by decide) (by rw [hll]; have h1_ := HL.out.1; omega) (by rw [hll]; exact HL.out.2) 20 (by decide))
      have HAT := Aside0.mk hat
      have C9 := Aside0.mk c9
      have oo := OO0.out
      rw [← hls] at oo
      have OO := Aside0.mk oo
      have HLS := Aside0.mk hls
      clear hp c9 hpr hls oo OO0 hat hat2 hll
      go_wp2_with (first | ((with_reducible refine gate_dst (N := 23) rfl ?_); refine goesL_ (some 23) rfl rfl Try.func53 (by kernel_rfl) rfl #[u9000_, .int .i64 at_, .int .i64 4, .int .i64 p] rfl (by (try simp only [List.map_toArray, List.map_cons, List.map_nil]); first | done | rfl | (rw [HAT.out]; rfl)) ?_; refine (impl_put_int.calls 20 (fun k => P0_ k ∧ k < s0) u9000_ ls at_ 4 p _ w0 _ HB.out OO.out HP4.out).mono ?_; rintro e_ w4 ⟨rfl, R_, hb_, kp_⟩; refine ⟨_, rfl, ?_⟩; have OO4 := own_same R_ OO.out rfl; have HB4 := Aside0.mk hb_; have KP4 := Aside0.mk (KP.out.then_ kp_ (fun k hk => .inl hk.1)); have OP4 := Aside0.mk (Kd.R_kept OP.out kp_ (fun k hk hk2 => by have h1_ := hk.1; have h2_ := hk2.2; omega)); clear R_ hb_ kp_ OO HB KP OP))
      go_roundw
      case rel =>
        refine ⟨j + 1, by rw [show wrap64 ((j : Int) + 1) = ((j + 1 : Nat) : Int) by (have := C9.out; unfold wrap64; omega)], ⟨by have := C9.out; omega⟩, ⟨?_⟩, OP4, HB4, KP4⟩
        have ho := OO4.out
        have e_ := impl_Root_put.step s xs l1 j HXL.out C9.out HL.out.1 p HPV.out
        simp only [] at e_
        rw [← HLS.out] at e_
        rw [e_] at ho
        exact ho
      case measure =>
        rw [show wrap64 ((j : Int) + 1) = ((j + 1 : Nat) : Int) by (have := C9.out; unfold wrap64; omega)]
        simp only [intOf, Int.toNat_natCast]
        have := C9.out
        omega
    · obtain rfl : j = 14 := by have := hj.out; omega
      have c9b0 : decide ((14 : Int) < (xs.length : Int)) = false := decide_eq_false (by rw [HXL.out]; decide)
      have c9b1 : decide (14 < xs.length) = false := decide_eq_false (by rw [HXL.out]; decide)
      go_wp2
      have ho := OO0.out
      rw [List.take_of_length_le (by rw [HXL.out]; exact Nat.le_refl _), HXS.out, HS.out] at ho
      refine Go.Great.bodyPost_end0 rfl rfl ⟨rfl, Kd.R_mono ho (fun _ hk => hk.1), HB.out, KP.out⟩

/-! ### impl_within: function 71 -/
def impl_within.f (a0 : Int) (a1 : Int) (a2 : Int) : Option (Bool) := if a0 ≥ a1 then (some (decide (a0 ≤ a2))) else (some false)
set_option maxHeartbeats 8000000 in
set_option maxRecDepth 100000 in
theorem impl_within.calls (a0 : Int) (a1 : Int) (a2 : Int) (r : Bool) (w : World) (h : impl_within.f a0 a1 a2 = some r) :
    Calls Try.prog 71 #[.int .i64 a0, .int .i64 a1, .int .i64 a2] w fun e w' => e = .returned (.bool r) ∧ Drawn0 w w' := by
  have H : (if a0 ≥ a1 then (some (decide (a0 ≤ a2))) else (some false)) = some r := h
  clear h
  by_cases c4 : a0 ≥ a1
  · rw [if_pos c4] at H
    have c4b0 : decide (a1 ≤ a0) = true := decide_eq_true c4
    clear c4
    obtain rfl := Option.some.inj H
    go_enter Try.func71, Try.ntmps71
    go_wp2
    go_ret
    exact ⟨by first | rfl | (simp; done) | (simp [*]; done), by repeat (first | exact Drawn0.refl _ | apply Drawn0.step)⟩
  · rw [if_neg c4] at H
    have c4b0 : decide (a1 ≤ a0) = false := decide_eq_false c4
    clear c4
    obtain rfl := Option.some.inj H
    go_enter Try.func71, Try.ntmps71
    go_wp2
    go_ret
    exact ⟨by first | rfl | (simp; done) | (simp [*]; done), by repeat (first | exact Drawn0.refl _ | apply Drawn0.step)⟩

/-! ### impl_isPointer: function 73 -/
def impl_isPointer.f (a0 : Int) (a1 : Int) : Option (Bool) := if a0 = 0 then (some true) else ((impl_within.f a0 2 (wrap64 (a1 - 1))).bind fun t124 => (some t124))
set_option maxHeartbeats 8000000 in
set_option maxRecDepth 100000 in
theorem impl_isPointer.calls (a0 : Int) (a1 : Int) (r : Bool) (w : World) (h : impl_isPointer.f a0 a1 = some r) :
    Calls Try.prog 73 #[.int .i64 a0, .int .i64 a1] w fun e w' => e = .returned (.bool r) ∧ Drawn0 w w' := by
  have H : (if a0 = 0 then (some true) else ((impl_within.f a0 2 (wrap64 (a1 - 1))).bind fun t124 => (some t124))) = some r := h
  clear h
  by_cases c3 : a0 = 0
  · rw [if_pos c3] at H
    have c3b0 : (a0 == 0) = true := beq_iff_eq.mpr c3
    have c3b1 : (a0 != 0) = false := bne_eq_false_iff_eq.mpr c3
    clear c3
    obtain rfl := Option.some.inj H
    go_enter Try.func73, Try.ntmps73
    go_wp2
    go_ret
    exact ⟨by first | rfl | (simp; done) | (simp [*]; done), by repeat (first | exact Drawn0.refl _ | apply Drawn0.step)⟩
  · rw [if_neg c3] at H
    have c3b0 : (a0 == 0) = false := beq_eq_false_iff_ne.mpr c3
    have c3b1 : (a0 != 0) = true := bne_iff_ne.mpr c3
    replace H := Option.bind_eq_some_iff.mp H
    obtain ⟨t124, A40, H⟩ := H
    replace H : (some t124) = some r := H
    have A4 := Aside0.mk A40
    clear A40
    obtain rfl := Option.some.inj H
    go_enter Try.func73, Try.ntmps73
    go_wp2_with (first | (go_at_call 71; (with_reducible refine (impl_within.calls a0 2 (wrap64 (a1 - 1)) t124 _ A4.out).mono ?_); rintro e w' ⟨rfl, ⟨nd, rfl⟩⟩))
    go_ret
    exact ⟨by first | rfl | (simp; done) | (simp [*]; done), by repeat (first | exact Drawn0.refl _ | apply Drawn0.step)⟩

/-! ### impl_count: function 74 -/
def impl_count.f (a0 : Int) : Option (Int) := some (wrap64 (Int.tdiv (wrap64 ((wrap64 (a0 + 512)) - 1)) 512))
set_option maxHeartbeats 8000000 in
set_option maxRecDepth 100000 in
theorem impl_count.calls (a0 : Int) (r : Int) (w : World) (h : impl_count.f a0 = some r) :
    Calls Try.prog 74 #[.int .i64 a0] w fun e w' => e = .returned (.int .i64 r) ∧ Drawn0 w w' := by
  have H : (some (wrap64 (Int.tdiv (wrap64 ((wrap64 (a0 + 512)) - 1)) 512))) = some r := h
  clear h
  obtain rfl := Option.some.inj H
  go_enter Try.func74, Try.ntmps74
  go_wp2
  go_ret
  exact ⟨by first | rfl | (simp; done) | (simp [*]; done), by repeat (first | exact Drawn0.refl _ | apply Drawn0.step)⟩

end Go.Proofs.Ytkghgjehjchajaa.PFnTable
