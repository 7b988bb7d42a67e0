-- Written by a program of this session (patch_print.py over the kit print)
import Derived.Test.YtkghgjehjchajaaPFnExactEncodeTablex0
import Derived.Test.YtkghgjehjchajaaPFnExactEncodeTablex3
import Derived.Test.YtkghgjehjchajaaPFnExactEncodeTablex4
import Derived.Test.YtkghgjehjchajaaPFnExactEncodeTablex6
namespace Go.Proofs.Ytkghgjehjchajaa.PFnExactEncodeTable
open Go.RowKit Go.Proofs.YtkghgjehjchajaaW.PrintWords Go.Proofs.YtkghgjehjchajaaW.PrintLast Go.Proofs.YtkghgjehjchajaaW.PrintMore
attribute [local go_sem] max2_int min2_int max_two min_two max_three min_three max_four min_four   -- for this text's walks alone
set_option linter.unusedVariables false
set_option linter.unusedSimpArgs false

open Go.Proofs.YtkghgjehjchajaaW Go.Proofs.YtkghgjehjchajaaW.PrintHand Go.Proofs.YtkghgjehjchajaaW.PrintHx
/-! ### spec_l05Bytes: function 58 -/
open Go.Proofs.YtkghgjehjchajaaW.PrintLe Go.Proofs.YtkghgjehjchajaaW.PrintIno Go.Proofs.YtkghgjehjchajaaW.PrintTabl Go.Proofs.YtkghgjehjchajaaW.PrintTab2
def spec_l05Bytes.f (l0 : List (List Int)) : Option (List Int) := if allGood l0 = true ∧ lastOf l0 ≤ 1000 then some (tableBytes l0) else none
set_option maxHeartbeats 8000000 in
set_option maxRecDepth 100000 in
theorem spec_l05Bytes.calls (A0 : Option Addr) (c0 : Nat) (l0 : List (List Int)) (r : List Int) (w : World) (hr0 : Kd.C (PrintHx.wide 24) w A0 l0.length l0) (hc0 : l0.length ≤ c0) (h : spec_l05Bytes.f l0 = some r) :
    Calls Try.prog 58 #[.slice A0 l0.length c0] w fun e w' => ∃ v0_ : Value, e = .returned (v0_) ∧ Kd.R (Kd.int .u8) 5 w' w.heap.size (fun _ => True) v0_ r ∧ Below w.heap.size w w' := by
  unfold spec_l05Bytes.f at h
  by_cases hdom : allGood l0 = true ∧ lastOf l0 ≤ 1000
  case neg => rw [if_neg hdom] at h; cases h
  rw [if_pos hdom] at h
  obtain rfl := Option.some.inj h
  have HW := Aside0.mk (wide_len hr0)
  have HR0 := Aside0.mk hr0
  have HC0 := Aside0.mk hc0
  have HG := Aside0.mk hdom.1
  obtain ⟨m, hm⟩ : ∃ m : Nat, (m : Int) = lastOf l0 := ⟨(lastOf l0).toNat, by have := lastOf_pos l0; omega⟩
  have HM := Aside0.mk (show m ≤ 1000 by have := hdom.2; omega)
  have HRES := Aside0.mk (show tableBytes l0 = tableBytesTo l0 (m + 1) by unfold tableBytes; rw [show (lastOf l0).toNat = m by omega])
  have HLAST := Aside0.mk (show spec_l05Last.f l0 = some (m : Int) by rw [hm]; rfl)
  have HLEN := Aside0.mk (show l0.length ≤ 9223372036854775807 from hr0.2.1)
  have info5_ : (Try.prog.info? 5).map (fun i => (i.zero, i.size, i.bytes)) = some (some (.int .u8 0), 1, 1) := by kernel_rfl
  have Z42 : ∀ w, (zeroValue 42).run Try.prog w = .ok (.agg (nums .i64 (List.replicate 24 0)).toArray) w := fun _ => by kernel_rfl
  obtain ⟨zz, hzz⟩ : ∃ z, z = List.replicate 24 (0 : Int) := ⟨_, rfl⟩
  have ZZ := Aside0.mk hzz
  have NZ := Aside0.mk (show zz.length = 24 by rw [hzz]; simp)
  have HB := Aside0.mk (Below.refl w.heap.size w)
  clear hr0 hc0 h hdom hm hzz
  go_enter Try.func58, Try.ntmps58
  go_wp2
  (try simp only [Act.put, List.setIfInBounds_toArray, List.set_cons_succ, List.set_cons_zero])
  go_loopw [3, 4, 5] (fun v3 v4 v5 wr => ∃ (j : Nat) (u3 u5 : Value), u3 = v3 ∧ u5 = v5 ∧ v4 = .int .i64 (j : Int) ∧ Aside0 (j ≤ m + 1) ∧ Aside0 (Kd.R (Kd.int .u8) 5 wr w.heap.size (fun _ => True) v3 (tableBytesTo l0 j)) ∧ Aside0 (Below w.heap.size w wr)) (fun _ v4 _ _ => 1002 - (intOf v4).toNat)
  case atStart => exact ⟨0, _, _, rfl, rfl, rfl, ⟨Nat.zero_le _⟩, ⟨PrintRaw.own_blk (L := []) (blk_new _ _) (Nat.le_refl _) (by decide)⟩, ⟨below_alloc (Below.refl _ _) _⟩⟩
  case round =>
    clear HB
    obtain ⟨j, v3, v5, rfl, rfl, rfl, hj, OO, HB⟩ := hrel
    obtain ⟨bs, hbs⟩ : ∃ bs, bs = tableBytesTo l0 j := ⟨_, rfl⟩
    have HBL := Aside0.mk (show bs.length = 128 * j by rw [hbs]; exact tableBytesTo_length HW.out j)
    rw [← hbs] at OO
    have HBS := Aside0.mk hbs
    clear hbs
    by_cases c9 : j ≤ m
    · have c9b0 : decide ((j : Int) ≤ (m : Int)) = true := decide_eq_true (by omega)
      have c9b1 : decide (j ≤ m) = true := decide_eq_true c9
      have C9 := Aside0.mk c9
      clear c9
      obtain ⟨x, hx⟩ : ∃ x, x = atI l0 j := ⟨_, rfl⟩
      have HXL := Aside0.mk (show x.length = 24 by rw [hx]; exact atI_length HW.out j)
      have HXB := Aside0.mk (show spec_l02InodeBytes.f x = some (inodeBytes x) by rw [hx]; exact if_pos (atI_good HG.out j))
      have HYL := Aside0.mk (inodeBytes_length HXL.out)
      by_cases c10 : j < l0.length
      · have c10b0 : decide ((j : Int) < (l0.length : Int)) = true := decide_eq_true (by omega)
        have c10b1 : decide (j < l0.length) = true := decide_eq_true c10
        have q3 : ((j : Int) < (l0.length : Int)) = True := eq_true (by omega)
        have q4 : (0 ≤ (j : Int)) = True := eq_true (by omega)
        have q5 : (j < l0.length) = True := eq_true c10
        obtain ⟨ad, ea, hl, hc⟩ := wide_at HR0.out j c10
        have HAT := Aside0.mk (show x = l0.getD j [] by rw [hx]; unfold atI; rw [if_pos c10])
        rw [← HAT.out] at hl hc
        subst ea
        have HRC := Aside0.mk (fun (W : World) (hW : Below w.heap.size w W) => (show ∀ i, i < 24 → W.cell? (ad.add (j * 24 + i)) = some (.int .i64 (x.getD i 0)) from by
          obtain ⟨ad2, ea2, hl2, hc2⟩ := wide_at (Kd.C_below HR0.out hW) j c10
          cases ea2
          rw [← HAT.out] at hc2
          exact hc2))
        have HX := Aside0.mk hx
        clear hx c10 hl hc
        go_wp2_with (first | ((with_reducible refine gate_dst (N := 9) rfl ?_); refine goesL_ (some 9) rfl rfl Try.func57 (by kernel_rfl) rfl #[.slice (some ad) l0.length c0] rfl (by (try simp only [List.map_toArray, List.map_cons, List.map_nil]); first | done | rfl) ?_; refine (spec_l05Last.calls (some ad) c0 l0 _ _ (Kd.C_below HR0.out HB.out) HC0.out HLAST.out).mono ?_; rintro e_ w1 ⟨rfl, b_⟩; refine ⟨_, rfl, ?_⟩; have HB1 := Aside0.mk (below_then HB.out HB.out.size b_); obtain ⟨s1, Sz1⟩ : ∃ s, Aside0 (w1.heap.size = s) := ⟨_, ⟨rfl⟩⟩; have hs1 : w.heap.size ≤ s1 := (by rw [← Sz1.out]; exact HB1.out.size); have OO1 := Aside0.mk (Kd.R_mono (ok' := fun k => k < s1) (Kd.R_bound (Kd.R_below OO.out b_)) (fun k hk => by have h_ := hk.2.2.1; rw [Sz1.out] at h_; exact h_)); clear b_ HB OO) | ((with_reducible refine gate_dst (N := 5) rfl ?_); refine hx_alloc rfl 5 rfl 42 rfl Sz1 (.agg (nums .i64 (List.replicate 24 0)).toArray) (nums .i64 (List.replicate 24 0)).toArray Z42 rfl ?_; intro w2 s2 L2 Sz2 b_ g_; have HA := Aside0.mk g_; have HB2 := Aside0.mk (below_then HB1.out HB1.out.size b_); have OO2 := Aside0.mk (Kd.R_below OO1.out b_); clear b_ g_ HB1 OO1) | ((with_reducible refine gate_store (t := 42) (p := 5) (v := .tmp 13) rfl ?_); refine hx_store rfl rfl 42 (.tmp 5) (.tmp 13) rfl s1 24 rfl (nums .i64 zz).toArray (by rw [ZZ.out]; rfl) (by kernel_rfl) (nums_size _ _ _ NZ.out) (nums_one _ _) HA.out (by simp [nums]) ?_; intro w3 t_ gg_; have HA3 := Aside0.mk gg_; have HB3 := Aside0.mk (t_.below HB2.out (by omega)); have OO3 := Aside0.mk (Kd.R_kept OO2.out (kept_touch t_) (fun k hk h_ => by have h1_ : k = s1 := h_; have h2_ : k < s1 := hk; omega)); clear t_ gg_ HA HB2 OO2) | ((with_reducible refine gate_dst (N := 21) rfl ?_); refine hx_load_at rfl 42 (.tmp 20) rfl (ad.add (j * 24)) rfl x 24 Try.underlying42 rfl (by kernel_rfl) HXL.out (fun i hi => by rw [Addr.add_add]; exact HRC.out _ HB3.out i hi) ?_) | ((with_reducible refine gate_store (t := 42) (p := 5) (v := .tmp 21) rfl ?_); refine hx_store rfl rfl 42 (.tmp 5) (.tmp 21) rfl s1 24 rfl (nums .i64 x).toArray rfl (by kernel_rfl) (nums_size _ _ _ HXL.out) (nums_one _ _) HA3.out (nums_size _ _ _ NZ.out) ?_; intro w4 t_ gg_; have HA4 := Aside0.mk gg_; have HB4 := Aside0.mk (t_.below HB3.out (by omega)); have OO4 := Aside0.mk (Kd.R_kept OO3.out (kept_touch t_) (fun k hk h_ => by have h1_ : k = s1 := h_; have h2_ : k < s1 := hk; omega)); clear t_ gg_ HA3 HB3 OO3) | ((with_reducible refine gate_dst (N := 23) rfl ?_); refine hx_load rfl 42 (.tmp 5) rfl s1 24 rfl Try.underlying42 rfl (by kernel_rfl) HA4.out (nums_size _ _ _ HXL.out) ?_) | ((with_reducible refine gate_dst (N := 24) rfl ?_); refine goesL_ (some 24) rfl rfl Try.func51 (by kernel_rfl) rfl #[.agg (nums .i64 x).toArray] rfl (by (try simp only [List.map_toArray, List.map_cons, List.map_nil]); first | done | rfl) ?_; refine (spec_l02InodeBytes.calls x HXL.out (inodeBytes x) _ HXB.out).mono ?_; rintro e_ w5 ⟨v24, rfl, R_, b_⟩; obtain ⟨A24, c24, rfl⟩ := Kd.R_slice R_; refine ⟨_, rfl, ?_⟩; have O24 := Aside0.mk R_; have HB5 := Aside0.mk (below_then HB4.out HB4.out.size b_); have OO5 := Aside0.mk (Kd.R_mono (ok' := fun _ => True) (Kd.R_below OO4.out b_) (fun _ _ => trivial)); clear R_ b_ HB4 OO4) | ((with_reducible refine gate_dst (N := 25) rfl ?_); refine Kd.R_append_rows (Kd.int .u8) (w0 := w) w.heap.size rfl (.tmp 22) (.tmp 24) 25 5 (.int .u8 0) 1 rfl Try.underlying25 info5_ rfl (by decide) (by omega) v3 bs (inodeBytes x) _ _ _ (fun _ => True) (fun _ => False) rfl rfl OO5.out (Kd.R_reads' O24.out).2.2 (fun _ _ h => h) (fun _ h => h.elim) (fun _ _ => trivial) HB5.out HB5.out.size (by have h1_ := HBL.out; have h2_ := C9.out; have h3_ := HM.out; have h4_ := HYL.out; omega) ?_; intro v25 w6 ho hb hg_ hn_; have OO6 := Aside0.mk ho; have HB6 := Aside0.mk hb; clear ho hb hg_ hn_ HB5 OO5 O24))
        go_roundw
        case rel => exact ⟨j + 1, _, _, rfl, rfl, by rw [show wrap64 ((j : Int) + 1) = ((j + 1 : Nat) : Int) by (have := HM.out; have := C9.out; unfold wrap64; omega)], ⟨by have := C9.out; omega⟩, ⟨by rw [tableBytesTo_succ, ← HBS.out, ← HX.out]; exact OO6.out⟩, HB6⟩
        case measure =>
          rw [show wrap64 ((j : Int) + 1) = ((j + 1 : Nat) : Int) by (have := HM.out; have := C9.out; unfold wrap64; omega)]
          simp only [intOf, Int.toNat_natCast]
          have := C9.out
          have := HM.out
          omega
      · have c10b0 : decide ((j : Int) < (l0.length : Int)) = false := decide_eq_false (by omega)
        have c10b1 : decide (j < l0.length) = false := decide_eq_false c10
        have HXZ := Aside0.mk (show x = zz by rw [hx, ZZ.out]; unfold atI; rw [if_neg c10]; rfl)
        have HX := Aside0.mk hx
        clear hx c10
        go_wp2_with (first | ((with_reducible refine gate_dst (N := 9) rfl ?_); refine goesL_ (some 9) rfl rfl Try.func57 (by kernel_rfl) rfl #[.slice A0 l0.length c0] rfl (by (try simp only [List.map_toArray, List.map_cons, List.map_nil]); first | done | rfl) ?_; refine (spec_l05Last.calls A0 c0 l0 _ _ (Kd.C_below HR0.out HB.out) HC0.out HLAST.out).mono ?_; rintro e_ w1 ⟨rfl, b_⟩; refine ⟨_, rfl, ?_⟩; have HB1 := Aside0.mk (below_then HB.out HB.out.size b_); obtain ⟨s1, Sz1⟩ : ∃ s, Aside0 (w1.heap.size = s) := ⟨_, ⟨rfl⟩⟩; have hs1 : w.heap.size ≤ s1 := (by rw [← Sz1.out]; exact HB1.out.size); have OO1 := Aside0.mk (Kd.R_mono (ok' := fun k => k < s1) (Kd.R_bound (Kd.R_below OO.out b_)) (fun k hk => by have h_ := hk.2.2.1; rw [Sz1.out] at h_; exact h_)); clear b_ HB OO) | ((with_reducible refine gate_dst (N := 5) rfl ?_); refine hx_alloc rfl 5 rfl 42 rfl Sz1 (.agg (nums .i64 (List.replicate 24 0)).toArray) (nums .i64 (List.replicate 24 0)).toArray Z42 rfl ?_; intro w2 s2 L2 Sz2 b_ g_; have HA := Aside0.mk g_; have HB2 := Aside0.mk (below_then HB1.out HB1.out.size b_); have OO2 := Aside0.mk (Kd.R_below OO1.out b_); clear b_ g_ HB1 OO1) | ((with_reducible refine gate_store (t := 42) (p := 5) (v := .tmp 13) rfl ?_); refine hx_store rfl rfl 42 (.tmp 5) (.tmp 13) rfl s1 24 rfl (nums .i64 zz).toArray (by rw [ZZ.out]; rfl) (by kernel_rfl) (nums_size _ _ _ NZ.out) (nums_one _ _) HA.out (by simp [nums]) ?_; intro w3 t_ gg_; have HA3 := Aside0.mk gg_; have HB3 := Aside0.mk (t_.below HB2.out (by omega)); have OO3 := Aside0.mk (Kd.R_kept OO2.out (kept_touch t_) (fun k hk h_ => by have h1_ : k = s1 := h_; have h2_ : k < s1 := hk; omega)); clear t_ gg_ HA HB2 OO2) | ((with_reducible refine gate_dst (N := 23) rfl ?_); refine hx_load rfl 42 (.tmp 5) rfl s1 24 rfl Try.underlying42 rfl (by kernel_rfl) HA3.out (nums_size _ _ _ NZ.out) ?_) | ((with_reducible refine gate_dst (N := 24) rfl ?_); refine goesL_ (some 24) rfl rfl Try.func51 (by kernel_rfl) rfl #[.agg (nums .i64 zz).toArray] rfl (by (try simp only [List.map_toArray, List.map_cons, List.map_nil]); first | done | rfl) ?_; refine (spec_l02InodeBytes.calls zz NZ.out (inodeBytes x) _ (by rw [← HXZ.out]; exact HXB.out)).mono ?_; rintro e_ w5 ⟨v24, rfl, R_, b_⟩; obtain ⟨A24, c24, rfl⟩ := Kd.R_slice R_; refine ⟨_, rfl, ?_⟩; have O24 := Aside0.mk R_; have HB5 := Aside0.mk (below_then HB3.out HB3.out.size b_); have OO5 := Aside0.mk (Kd.R_mono (ok' := fun _ => True) (Kd.R_below OO3.out b_) (fun _ _ => trivial)); clear R_ b_ HB3 OO3) | ((with_reducible refine gate_dst (N := 25) rfl ?_); refine Kd.R_append_rows (Kd.int .u8) (w0 := w) w.heap.size rfl (.tmp 22) (.tmp 24) 25 5 (.int .u8 0) 1 rfl Try.underlying25 info5_ rfl (by decide) (by omega) v3 bs (inodeBytes x) _ _ _ (fun _ => True) (fun _ => False) rfl rfl OO5.out (Kd.R_reads' O24.out).2.2 (fun _ _ h => h) (fun _ h => h.elim) (fun _ _ => trivial) HB5.out HB5.out.size (by have h1_ := HBL.out; have h2_ := C9.out; have h3_ := HM.out; have h4_ := HYL.out; omega) ?_; intro v25 w6 ho hb hg_ hn_; have OO6 := Aside0.mk ho; have HB6 := Aside0.mk hb; clear ho hb hg_ hn_ HB5 OO5 O24))
        go_roundw
        case rel => exact ⟨j + 1, _, _, rfl, rfl, by rw [show wrap64 ((j : Int) + 1) = ((j + 1 : Nat) : Int) by (have := HM.out; have := C9.out; unfold wrap64; omega)], ⟨by have := C9.out; omega⟩, ⟨by rw [tableBytesTo_succ, ← HBS.out, ← HX.out]; exact OO6.out⟩, HB6⟩
        case measure =>
          rw [show wrap64 ((j : Int) + 1) = ((j + 1 : Nat) : Int) by (have := HM.out; have := C9.out; unfold wrap64; omega)]
          simp only [intOf, Int.toNat_natCast]
          have := C9.out
          have := HM.out
          omega
    · obtain rfl : j = m + 1 := by have := hj.out; omega
      have c9b0 : decide (((m + 1 : Nat) : Int) ≤ (m : Int)) = false := decide_eq_false (by omega)
      have c9b1 : decide (m + 1 ≤ m) = false := decide_eq_false c9
      have c9b2 : decide ((m : Int) + 1 ≤ (m : Int)) = false := decide_eq_false (by omega)
      clear c9
      go_wp2_with (first | ((with_reducible refine gate_dst (N := 9) rfl ?_); refine goesL_ (some 9) rfl rfl Try.func57 (by kernel_rfl) rfl #[.slice A0 l0.length c0] rfl (by (try simp only [List.map_toArray, List.map_cons, List.map_nil]); first | done | rfl) ?_; refine (spec_l05Last.calls A0 c0 l0 _ _ (Kd.C_below HR0.out HB.out) HC0.out HLAST.out).mono ?_; rintro e_ w1 ⟨rfl, b_⟩; refine ⟨_, rfl, ?_⟩; have HB1 := Aside0.mk (below_then HB.out HB.out.size b_); obtain ⟨s1, Sz1⟩ : ∃ s, Aside0 (w1.heap.size = s) := ⟨_, ⟨rfl⟩⟩; have hs1 : w.heap.size ≤ s1 := (by rw [← Sz1.out]; exact HB1.out.size); have OO1 := Aside0.mk (Kd.R_mono (ok' := fun k => k < s1) (Kd.R_bound (Kd.R_below OO.out b_)) (fun k hk => by have h_ := hk.2.2.1; rw [Sz1.out] at h_; exact h_)); clear b_ HB OO))
      go_ret
      rw [HRES.out, ← HBS.out]
      exact ⟨_, rfl, Kd.R_mono OO1.out (fun _ _ => trivial), HB1.out⟩

open Go.Proofs.YtkghgjehjchajaaW Go.Proofs.YtkghgjehjchajaaW.PrintHand Go.Proofs.YtkghgjehjchajaaW.PrintHx
/-! ### spec_EncodeTable: function 28 -/
open Go.Proofs.YtkghgjehjchajaaW.PrintLe Go.Proofs.YtkghgjehjchajaaW.PrintIno Go.Proofs.YtkghgjehjchajaaW.PrintTabl Go.Proofs.YtkghgjehjchajaaW.PrintTab2 Go.Proofs.YtkghgjehjchajaaW.PrintEqW
def spec_EncodeTable.f (l0 : List (List Int)) : Option (List Int × Int) := some (if tableGood l0 = true then (tableBytes l0, 0) else ([], 7))
set_option maxHeartbeats 8000000 in
set_option maxRecDepth 100000 in
theorem spec_EncodeTable.calls (A0 : Option Addr) (c0 : Nat) (l0 : List (List Int)) (r1 : List Int) (r2 : Int) (w : World) (hr0 : Kd.C (PrintHx.wide 24) w A0 l0.length l0) (hc0 : l0.length ≤ c0) (h : spec_EncodeTable.f l0 = some (r1, r2)) :
    Calls Try.prog 28 #[.slice A0 l0.length c0] w fun e w' => ∃ v0_ : Value, e = .returned (.tuple #[v0_, .int .i64 r2]) ∧ Kd.R (Kd.int .u8) 5 w' w.heap.size (fun _ => True) v0_ r1 ∧ Below w.heap.size w w' := by
  unfold spec_EncodeTable.f at h
  have HH := Aside0.mk h
  have HW := Aside0.mk (wide_len hr0)
  have HR0 := Aside0.mk hr0
  have HC0 := Aside0.mk hc0
  obtain ⟨m, hm⟩ : ∃ m : Nat, (m : Int) = lastOf l0 := ⟨(lastOf l0).toNat, by have := lastOf_pos l0; omega⟩
  have HMM := Aside0.mk hm
  have HLAST := Aside0.mk (show spec_l05Last.f l0 = some (m : Int) by rw [hm]; rfl)
  have HLEN := Aside0.mk (show l0.length ≤ 9223372036854775807 from hr0.2.1)
  have Z42 : ∀ w, (zeroValue 42).run Try.prog w = .ok (.agg (nums .i64 (List.replicate 24 0)).toArray) w := fun _ => by kernel_rfl
  obtain ⟨zz, hzz⟩ : ∃ z, z = List.replicate 24 (0 : Int) := ⟨_, rfl⟩
  have ZZ := Aside0.mk hzz
  have NZ := Aside0.mk (show zz.length = 24 by rw [hzz]; simp)
  have HB := Aside0.mk (Below.refl w.heap.size w)
  clear hr0 hc0 h hm hzz
  go_enter Try.func28, Try.ntmps28
  go_wp2
  (try simp only [Act.put, List.setIfInBounds_toArray, List.set_cons_succ, List.set_cons_zero])
  go_loopw [5, 8] (fun v5 v8 wr => ∃ (j : Nat) (u5 : Value), u5 = v5 ∧ v8 = .int .i64 (j : Int) ∧ Aside0 (j ≤ l0.length) ∧ Aside0 (∀ i, i < j → inodeGood (l0.getD i []) = true) ∧ Aside0 (Below w.heap.size w wr)) (fun _ v8 _ => l0.length - (intOf v8).toNat)
  case atStart => exact ⟨0, _, rfl, rfl, ⟨Nat.zero_le _⟩, ⟨fun i hi => absurd hi (by omega)⟩, HB⟩
  case round =>
    clear HB
    obtain ⟨j, v5, rfl, rfl, hj, HG, HB⟩ := hrel
    by_cases c9 : j < l0.length
    · have c9b0 : decide ((j : Int) < (l0.length : Int)) = true := decide_eq_true (by omega)
      have c9b1 : decide (j < l0.length) = true := decide_eq_true c9
      have q3 : ((j : Int) < (l0.length : Int)) = True := eq_true (by omega)
      have q4 : (0 ≤ (j : Int)) = True := eq_true (by omega)
      have q5 : (j < l0.length) = True := eq_true c9
      obtain ⟨ad, ea, hl, hc⟩ := wide_at (Kd.C_below HR0.out HB.out) j c9
      subst ea
      obtain ⟨x, hx⟩ : ∃ x, x = l0.getD j [] := ⟨_, rfl⟩
      rw [← hx] at hl hc
      have HX := Aside0.mk hx
      have HL := Aside0.mk hl
      have HC := Aside0.mk hc
      have C9 := Aside0.mk c9
      obtain ⟨sj, Szj⟩ : ∃ s, Aside0 (wr.heap.size = s) := ⟨_, ⟨rfl⟩⟩
      have hle_ : w.heap.size ≤ sj := by rw [← Szj.out]; exact HB.out.size
      clear hx hl hc c9
      obtain ⟨b, hb⟩ : ∃ b, b = inodeGood x := ⟨_, rfl⟩
      have HG1 := Aside0.mk (show spec_l02Inode.f x = some b by rw [hb]; rfl)
      have HGB := Aside0.mk hb
      clear hb
      cases b with
      | false =>
        go_wp2_with (first | ((with_reducible refine gate_dst (N := 11) rfl ?_); refine hx_load_at rfl 42 (.tmp 10) rfl (ad.add (j * 24)) rfl x 24 Try.underlying42 rfl (by kernel_rfl) HL.out (fun i hi => by rw [Addr.add_add]; exact HC.out i hi) ?_) | ((with_reducible refine gate_dst (N := 5) rfl ?_); refine hx_alloc rfl 5 rfl 42 rfl Szj (.agg (nums .i64 (List.replicate 24 0)).toArray) (nums .i64 (List.replicate 24 0)).toArray Z42 rfl ?_; intro w2 s2 Ls2 Ss2 b_ g_; have HA := Aside0.mk g_; have HB2 := Aside0.mk (below_then HB.out HB.out.size b_); clear b_ g_ HB) | ((with_reducible refine gate_store (t := 42) (p := 5) (v := .tmp 11) rfl ?_); refine hx_store rfl rfl 42 (.tmp 5) (.tmp 11) rfl sj 24 rfl (nums .i64 x).toArray rfl (by kernel_rfl) (nums_size _ _ _ HL.out) (nums_one _ _) HA.out (by simp [nums]) ?_; intro w3 t_ gg_; have HA3 := Aside0.mk gg_; have HB3 := Aside0.mk (t_.below HB2.out (by omega)); clear t_ gg_ HA HB2) | ((with_reducible refine gate_dst (N := 12) rfl ?_); refine hx_load rfl 42 (.tmp 5) rfl sj 24 rfl Try.underlying42 rfl (by kernel_rfl) HA3.out (nums_size _ _ _ HL.out) ?_) | ((with_reducible refine gate_dst (N := 13) rfl ?_); refine goesL_ (some 13) rfl rfl Try.func50 (by kernel_rfl) rfl #[.agg (nums .i64 x).toArray] rfl (by (try simp only [List.map_toArray, List.map_cons, List.map_nil]); first | done | rfl) ?_; refine (spec_l02Inode.calls x HL.out _ _ HG1.out).mono ?_; rintro e_ w4 ⟨rfl, b_⟩; refine ⟨_, rfl, ?_⟩; have HB4 := Aside0.mk (below_then HB3.out HB3.out.size b_); clear b_ HB3 HA3))
        go_ret2
        have e_ : tableGood l0 = false := by unfold tableGood; rw [allGood_not C9.out (by rw [← HX.out]; exact HGB.out.symm)]; rfl
        have h_ := HH.out
        rw [e_] at h_
        simp only [Bool.false_eq_true, if_false, Option.some.injEq, Prod.mk.injEq] at h_
        obtain ⟨rfl, rfl⟩ := h_
        exact ⟨_, rfl, Kd.R_nil _ _ _ _ _, HB4.out⟩
      | true =>
        go_wp2_with (first | ((with_reducible refine gate_dst (N := 11) rfl ?_); refine hx_load_at rfl 42 (.tmp 10) rfl (ad.add (j * 24)) rfl x 24 Try.underlying42 rfl (by kernel_rfl) HL.out (fun i hi => by rw [Addr.add_add]; exact HC.out i hi) ?_) | ((with_reducible refine gate_dst (N := 5) rfl ?_); refine hx_alloc rfl 5 rfl 42 rfl Szj (.agg (nums .i64 (List.replicate 24 0)).toArray) (nums .i64 (List.replicate 24 0)).toArray Z42 rfl ?_; intro w2 s2 Ls2 Ss2 b_ g_; have HA := Aside0.mk g_; have HB2 := Aside0.mk (below_then HB.out HB.out.size b_); clear b_ g_ HB) | ((with_reducible refine gate_store (t := 42) (p := 5) (v := .tmp 11) rfl ?_); refine hx_store rfl rfl 42 (.tmp 5) (.tmp 11) rfl sj 24 rfl (nums .i64 x).toArray rfl (by kernel_rfl) (nums_size _ _ _ HL.out) (nums_one _ _) HA.out (by simp [nums]) ?_; intro w3 t_ gg_; have HA3 := Aside0.mk gg_; have HB3 := Aside0.mk (t_.below HB2.out (by omega)); clear t_ gg_ HA HB2) | ((with_reducible refine gate_dst (N := 12) rfl ?_); refine hx_load rfl 42 (.tmp 5) rfl sj 24 rfl Try.underlying42 rfl (by kernel_rfl) HA3.out (nums_size _ _ _ HL.out) ?_) | ((with_reducible refine gate_dst (N := 13) rfl ?_); refine goesL_ (some 13) rfl rfl Try.func50 (by kernel_rfl) rfl #[.agg (nums .i64 x).toArray] rfl (by (try simp only [List.map_toArray, List.map_cons, List.map_nil]); first | done | rfl) ?_; refine (spec_l02Inode.calls x HL.out _ _ HG1.out).mono ?_; rintro e_ w4 ⟨rfl, b_⟩; refine ⟨_, rfl, ?_⟩; have HB4 := Aside0.mk (below_then HB3.out HB3.out.size b_); clear b_ HB3 HA3))
        go_roundw
        case rel => exact ⟨j + 1, _, rfl, by rw [show wrap64 ((j : Int) + 1) = ((j + 1 : Nat) : Int) by (have := HLEN.out; have := C9.out; unfold wrap64; omega)], ⟨by have := C9.out; omega⟩, ⟨fun i hi => by
          by_cases hij : i = j
          · rw [hij, ← HX.out]; exact HGB.out.symm
          · exact HG.out i (by omega)⟩, HB4⟩
        case measure =>
          rw [show wrap64 ((j : Int) + 1) = ((j + 1 : Nat) : Int) by (have := HLEN.out; have := C9.out; unfold wrap64; omega)]
          simp only [intOf, Int.toNat_natCast]
          have := C9.out
          omega
    · obtain rfl : j = l0.length := by have := hj.out; omega
      have c9b0 : decide ((l0.length : Int) < (l0.length : Int)) = false := decide_eq_false (by omega)
      have c9b1 : decide (l0.length < l0.length) = false := decide_eq_false c9
      clear c9
      have HAG := Aside0.mk (allGood_of HG.out)
      by_cases c17 : 0 < l0.length
      · have c17b0 : decide ((0 : Int) < (l0.length : Int)) = true := decide_eq_true (by omega)
        have c17b1 : decide (0 < l0.length) = true := decide_eq_true c17
        have q3 : ((0 : Int) < (l0.length : Int)) = True := eq_true (by omega)
        have q5 : (0 < l0.length) = True := eq_true c17
        obtain ⟨ad, ea, hl, hc⟩ := wide_at (Kd.C_below HR0.out HB.out) 0 c17
        subst ea
        obtain ⟨x, hx⟩ : ∃ x, x = l0.getD 0 [] := ⟨_, rfl⟩
        rw [← hx] at hl hc
        have HX := Aside0.mk hx
        have HL := Aside0.mk hl
        have HC := Aside0.mk hc
        clear hx hl hc c17
        by_cases c24 : x = zz
        · have BE := Aside0.mk (show (!decide (x = zz)) = false by rw [decide_eq_true c24]; rfl)
          have HFZ := Aside0.mk (show firstZero l0 = true by unfold firstZero; rw [← HX.out, decide_eq_true (show x = zInode by rw [c24, ZZ.out]; rfl)]; simp)
          clear c24
          by_cases c29 : m ≤ 1000
          · have c29b0 : decide ((1000 : Int) < (m : Int)) = false := decide_eq_false (by omega)
            have c29b1 : decide (1000 < m) = false := decide_eq_false (by omega)
            have HTG := Aside0.mk (show tableGood l0 = true by unfold tableGood; rw [HAG.out, HFZ.out, decide_eq_true (show lastOf l0 ≤ 1000 by rw [← HMM.out]; omega)]; rfl)
            have HTB := Aside0.mk (show spec_l05Bytes.f l0 = some (tableBytes l0) from if_pos ⟨HAG.out, by rw [← HMM.out]; omega⟩)
            clear c29
            go_wp2_with (first | ((with_reducible refine gate_dst (N := 22) rfl ?_); refine ungd (by rfl) ?_; refine hx_load_at rfl 42 (.tmp 21) rfl (ad.add (0 * 24)) (by first | rfl | (go_simp; done) | simp) x 24 Try.underlying42 rfl (by kernel_rfl) HL.out (fun i hi => by rw [Addr.add_add]; exact HC.out i hi) ?_) | ((with_reducible refine gate_dst (N := 24) rfl ?_); refine ungd (by rfl) ?_; refine wpList_neqw rfl (.tmp 22) (.tmp 23) _ rfl eqw42 (by decide) (by kernel_rfl) x zz rfl (by rw [ZZ.out]; rfl) HL.out NZ.out ?_; rw [BE.out]) | (go_at_call 57; (with_reducible refine (spec_l05Last.calls (some ad) c0 l0 (m : Int) _ (Kd.C_below HR0.out HB.out) HC0.out HLAST.out).mono ?_); rintro e_ w2 ⟨rfl, b_⟩; have HB2 := Aside0.mk (below_then HB.out HB.out.size b_); clear b_ HB) | ((with_reducible refine gate_dst (N := 32) rfl ?_); refine goesL_ (some 32) rfl rfl Try.func58 (by kernel_rfl) rfl #[.slice (some ad) l0.length c0] rfl (by (try simp only [List.map_toArray, List.map_cons, List.map_nil]); first | done | rfl) ?_; refine (spec_l05Bytes.calls (some ad) c0 l0 _ _ (Kd.C_below HR0.out HB2.out) HC0.out HTB.out).mono ?_; rintro e_ w3 ⟨v32, rfl, R_, b_⟩; refine ⟨_, rfl, ?_⟩; have O32 := Aside0.mk (Kd.R_lower R_ HB2.out.size); have HB3 := Aside0.mk (below_then HB2.out HB2.out.size b_); clear R_ b_ HB2))
            go_ret2
            have h_ := HH.out
            rw [HTG.out] at h_
            simp only [if_true, Option.some.injEq, Prod.mk.injEq] at h_
            obtain ⟨rfl, rfl⟩ := h_
            exact ⟨_, rfl, O32.out, HB3.out⟩
          · have c29b0 : decide ((1000 : Int) < (m : Int)) = true := decide_eq_true (by omega)
            have c29b1 : decide (1000 < m) = true := decide_eq_true (by omega)
            have HTG := Aside0.mk (show tableGood l0 = false by unfold tableGood; rw [decide_eq_false (show ¬ lastOf l0 ≤ 1000 by rw [← HMM.out]; omega)]; simp)
            clear c29
            go_wp2_with (first | ((with_reducible refine gate_dst (N := 22) rfl ?_); refine ungd (by rfl) ?_; refine hx_load_at rfl 42 (.tmp 21) rfl (ad.add (0 * 24)) (by first | rfl | (go_simp; done) | simp) x 24 Try.underlying42 rfl (by kernel_rfl) HL.out (fun i hi => by rw [Addr.add_add]; exact HC.out i hi) ?_) | ((with_reducible refine gate_dst (N := 24) rfl ?_); refine ungd (by rfl) ?_; refine wpList_neqw rfl (.tmp 22) (.tmp 23) _ rfl eqw42 (by decide) (by kernel_rfl) x zz rfl (by rw [ZZ.out]; rfl) HL.out NZ.out ?_; rw [BE.out]) | (go_at_call 57; (with_reducible refine (spec_l05Last.calls (some ad) c0 l0 (m : Int) _ (Kd.C_below HR0.out HB.out) HC0.out HLAST.out).mono ?_); rintro e_ w2 ⟨rfl, b_⟩; have HB2 := Aside0.mk (below_then HB.out HB.out.size b_); clear b_ HB))
            go_ret2
            have h_ := HH.out
            rw [HTG.out] at h_
            simp only [Bool.false_eq_true, if_false, Option.some.injEq, Prod.mk.injEq] at h_
            obtain ⟨rfl, rfl⟩ := h_
            exact ⟨_, rfl, Kd.R_nil _ _ _ _ _, HB2.out⟩
        · have BE := Aside0.mk (show (!decide (x = zz)) = true by rw [decide_eq_false c24]; rfl)
          have HFZ := Aside0.mk (show firstZero l0 = false by unfold firstZero; rw [← HX.out, decide_eq_false (show ¬ x = zInode by intro h_; exact c24 (by rw [h_, ZZ.out]; rfl)), decide_eq_false (show ¬ l0.length = 0 by have := of_eq_true q5; omega)]; rfl)
          clear c24
          go_wp2_with (first | ((with_reducible refine gate_dst (N := 22) rfl ?_); refine ungd (by rfl) ?_; refine hx_load_at rfl 42 (.tmp 21) rfl (ad.add (0 * 24)) (by first | rfl | (go_simp; done) | simp) x 24 Try.underlying42 rfl (by kernel_rfl) HL.out (fun i hi => by rw [Addr.add_add]; exact HC.out i hi) ?_) | ((with_reducible refine gate_dst (N := 24) rfl ?_); refine ungd (by rfl) ?_; refine wpList_neqw rfl (.tmp 22) (.tmp 23) _ rfl eqw42 (by decide) (by kernel_rfl) x zz rfl (by rw [ZZ.out]; rfl) HL.out NZ.out ?_; rw [BE.out]))
          go_ret2
          have e_ : tableGood l0 = false := by unfold tableGood; rw [HFZ.out]; simp
          have h_ := HH.out
          rw [e_] at h_
          simp only [Bool.false_eq_true, if_false, Option.some.injEq, Prod.mk.injEq] at h_
          obtain ⟨rfl, rfl⟩ := h_
          exact ⟨_, rfl, Kd.R_nil _ _ _ _ _, HB.out⟩
      · have c17b0 : decide ((0 : Int) < (l0.length : Int)) = false := decide_eq_false (by omega)
        have c17b1 : decide (0 < l0.length) = false := decide_eq_false c17
        have HFZ := Aside0.mk (show firstZero l0 = true by unfold firstZero; rw [decide_eq_true (show l0.length = 0 by omega)]; rfl)
        clear c17
        by_cases c29 : m ≤ 1000
        · have c29b0 : decide ((1000 : Int) < (m : Int)) = false := decide_eq_false (by omega)
          have c29b1 : decide (1000 < m) = false := decide_eq_false (by omega)
          have HTG := Aside0.mk (show tableGood l0 = true by unfold tableGood; rw [HAG.out, HFZ.out, decide_eq_true (show lastOf l0 ≤ 1000 by rw [← HMM.out]; omega)]; rfl)
          have HTB := Aside0.mk (show spec_l05Bytes.f l0 = some (tableBytes l0) from if_pos ⟨HAG.out, by rw [← HMM.out]; omega⟩)
          clear c29
          go_wp2_with (first | fail | (go_at_call 57; (with_reducible refine (spec_l05Last.calls A0 c0 l0 (m : Int) _ (Kd.C_below HR0.out HB.out) HC0.out HLAST.out).mono ?_); rintro e_ w2 ⟨rfl, b_⟩; have HB2 := Aside0.mk (below_then HB.out HB.out.size b_); clear b_ HB) | ((with_reducible refine gate_dst (N := 32) rfl ?_); refine goesL_ (some 32) rfl rfl Try.func58 (by kernel_rfl) rfl #[.slice A0 l0.length c0] rfl (by (try simp only [List.map_toArray, List.map_cons, List.map_nil]); first | done | rfl) ?_; refine (spec_l05Bytes.calls A0 c0 l0 _ _ (Kd.C_below HR0.out HB2.out) HC0.out HTB.out).mono ?_; rintro e_ w3 ⟨v32, rfl, R_, b_⟩; refine ⟨_, rfl, ?_⟩; have O32 := Aside0.mk (Kd.R_lower R_ HB2.out.size); have HB3 := Aside0.mk (below_then HB2.out HB2.out.size b_); clear R_ b_ HB2))
          go_ret2
          have h_ := HH.out
          rw [HTG.out] at h_
          simp only [if_true, Option.some.injEq, Prod.mk.injEq] at h_
          obtain ⟨rfl, rfl⟩ := h_
          exact ⟨_, rfl, O32.out, HB3.out⟩
        · have c29b0 : decide ((1000 : Int) < (m : Int)) = true := decide_eq_true (by omega)
          have c29b1 : decide (1000 < m) = true := decide_eq_true (by omega)
          have HTG := Aside0.mk (show tableGood l0 = false by unfold tableGood; rw [decide_eq_false (show ¬ lastOf l0 ≤ 1000 by rw [← HMM.out]; omega)]; simp)
          clear c29
          go_wp2_with (first | fail | (go_at_call 57; (with_reducible refine (spec_l05Last.calls A0 c0 l0 (m : Int) _ (Kd.C_below HR0.out HB.out) HC0.out HLAST.out).mono ?_); rintro e_ w2 ⟨rfl, b_⟩; have HB2 := Aside0.mk (below_then HB.out HB.out.size b_); clear b_ HB))
          go_ret2
          have h_ := HH.out
          rw [HTG.out] at h_
          simp only [Bool.false_eq_true, if_false, Option.some.injEq, Prod.mk.injEq] at h_
          obtain ⟨rfl, rfl⟩ := h_
          exact ⟨_, rfl, Kd.R_nil _ _ _ _ _, HB2.out⟩

open Go.Proofs.YtkghgjehjchajaaW Go.Proofs.YtkghgjehjchajaaW.PrintHand Go.Proofs.YtkghgjehjchajaaW.PrintHx
/-! ### laws_toIntA12: function 43 -/
def laws_toIntA12.f (a0 : List Int) : Option (List Int) := if a0.length = 12 then some a0 else none
set_option maxHeartbeats 4000000 in
set_option maxRecDepth 100000 in
theorem laws_toIntA12.calls (a0 : List Int) (n0 : a0.length = 12) (r : List Int) (w : World) (h : laws_toIntA12.f a0 = some r) :
    Calls Try.prog 43 #[.agg (nums .i64 a0).toArray] w fun e w' => e = .returned (.agg (nums .i64 r).toArray) ∧ Below w.heap.size w w' := by
  unfold laws_toIntA12.f at h
  rw [if_pos n0] at h
  obtain rfl := Option.some.inj h
  have N_ := Aside0.mk n0
  clear n0 h
  have Z_ : ∀ w, (zeroValue 22).run Try.prog w = .ok (.agg (nums .i64 (List.replicate 12 0)).toArray) w := fun _ => by kernel_rfl
  have HB0 : Aside0 (Below w.heap.size w w) := ⟨Below.refl _ _⟩
  obtain ⟨s0, Sz0⟩ : ∃ s0, Aside0 (w.heap.size = s0) := ⟨_, ⟨rfl⟩⟩
  have hw0 : w.heap.size ≤ s0 := Nat.le_of_eq Sz0.out
  have hu22 := Try.underlying22
  go_enter Try.func43, Try.ntmps43
  go_wp2_with (first | ((with_reducible refine gate_dst (N := 1) rfl ?_); refine hx_box rfl 1 rfl 22 (.tmp 0) rfl Sz0 (.agg (nums .i64 a0).toArray) (nums .i64 a0).toArray rfl rfl ?_; intro w1 s1 L1 Sz1 b1 g_; have H0 := Aside0.mk g_; have HB1 := Aside0.mk (below_then HB0.out HB0.out.size b1); clear g_ HB0 b1) | ((with_reducible refine gate_dst (N := 2) rfl ?_); refine hx_alloc rfl 2 rfl 22 rfl Sz1 (.agg (nums .i64 (List.replicate 12 0)).toArray) (nums .i64 (List.replicate 12 0)).toArray Z_ rfl ?_; intro w2 s2 L2 Sz2 b2 g_; have H1 := Aside0.mk g_; have H0 := Aside0.mk (blk_below H0.out b2); have HB2 := Aside0.mk (below_then HB1.out HB1.out.size b2); clear g_ HB1 b2) | ((with_reducible refine gate_dst (N := 3) rfl ?_); refine hx_alloc rfl 3 rfl 22 rfl Sz2 (.agg (nums .i64 (List.replicate 12 0)).toArray) (nums .i64 (List.replicate 12 0)).toArray Z_ rfl ?_; intro w3 s3 L3 Sz3 b3 g_; have H2 := Aside0.mk g_; have H0 := Aside0.mk (blk_below H0.out b3); have H1 := Aside0.mk (blk_below H1.out b3); have HB3 := Aside0.mk (below_then HB2.out HB2.out.size b3); clear g_ HB2 b3))
  (try simp only [Act.put, List.setIfInBounds_toArray, List.set_cons_succ, List.set_cons_zero])
  go_loopw [4] (fun i wr => ∃ k : Nat, k ≤ 12 ∧ i = .int .i64 (k : Int) ∧ Aside0 (Below w.heap.size w wr) ∧ Aside0 (wr.heap[s0]? = some (.cells (nums .i64 a0).toArray 22 (0, 0))) ∧ Aside0 (wr.heap[s1]? = some (.cells (nums .i64 (List.replicate 12 0)).toArray 22 (0, 0))) ∧ Aside0 (wr.heap[s2]? = some (.cells (nums .i64 (a0.take k ++ List.replicate (12 - k) 0)).toArray 22 (0, 0)))) (fun i _ => 12 - (intOf i).toNat)
  case atStart => exact ⟨0, by omega, rfl, HB3, H0, H1, H2⟩
  case round =>
    clear HB3 H0 H1 H2
    obtain ⟨k, hk, rfl, hB, h0, h1, h2⟩ := hrel
    by_cases hlt : k < 12
    · have c0 := row_cell h0.out k (by rw [N_.out]; exact hlt)
      have c2 := row_cell h2.out k (by rw [List.length_append, List.length_take, List.length_replicate, N_.out]; omega)
      have f2 := row_frozen h2.out k
      obtain ⟨y, hy⟩ : ∃ y, y = (a0.take k ++ List.replicate (12 - k) 0).getD k 0 := ⟨_, rfl⟩
      obtain ⟨x, hx⟩ : ∃ x, x = a0.getD k 0 := ⟨_, rfl⟩
      rw [← hy] at c2
      rw [← hx] at c0
      have HX := Aside0.mk hx
      clear hx hy
      go_wp2
      go_roundw
      case rel =>
        refine ⟨k + 1, by omega, by go_num, ⟨hB.out.setCell (show w.heap.size ≤ s2 by omega) _⟩, ⟨row_other h0.out (by omega) _ _⟩, ⟨row_other h1.out (by omega) _ _⟩, ⟨?_⟩⟩
        have h := row_set h2.out k (a0.getD k 0)
        have e : (a0.take k ++ List.replicate (12 - k) 0).set k (a0.getD k 0) = a0.take (k + 1) ++ List.replicate (12 - (k + 1)) 0 := by
          have hl : k < a0.length := by rw [N_.out]; exact hlt
          have ht : (a0.take k).length = k := by rw [List.length_take]; omega
          rw [List.set_append_right _ _ (by omega), ht, Nat.sub_self, show 12 - k = (12 - (k + 1)) + 1 by omega, List.replicate_succ, List.set_cons_zero, List.take_succ_eq_append_getElem hl, List.append_assoc, List.getD_eq_getElem?_getD, List.getElem?_eq_getElem hl]
          rfl
        rw [e, List.getD_eq_getElem?_getD, List.getElem?_eq_getElem (show k < a0.length by rw [N_.out]; exact hlt)] at h
        have hx := HX.out
        rw [List.getD_eq_getElem?_getD, List.getElem?_eq_getElem (show k < a0.length by rw [N_.out]; exact hlt)] at hx
        rw [hx]
        exact h
      case measure => simp [intOf]; omega
    · obtain rfl : k = 12 := by omega
      have e2 : a0.take 12 ++ List.replicate (12 - 12) 0 = a0 := by
        rw [List.take_of_length_le (by rw [N_.out]; exact Nat.le_refl _)]
        simp
      have h3 := h2.out
      rw [e2] at h3
      have H3 := Aside0.mk h3
      clear h2 e2 h3
      go_wp2_with (first | ((with_reducible refine gate_dst (N := 14) rfl ?_); refine hx_load rfl 22 (.tmp 3) rfl s2 12 rfl Try.underlying22 rfl (by kernel_rfl) H3.out (nums_size _ _ _ N_.out) ?_) | ((with_reducible refine gate_store (t := 22) (p := 2) (v := .tmp 14) rfl ?_); refine hx_store rfl rfl 22 (.tmp 2) (.tmp 14) rfl s1 12 rfl (nums .i64 a0).toArray rfl (by kernel_rfl) (nums_size _ _ _ N_.out) (nums_one _ _) h1.out (nums_size _ _ _ (by simp)) ?_; intro w4 t4 g4))
      refine bodyPost_ret (results_cell_row rfl _ _ s1 22 _ (0, 0) _ rfl g4 Try.underlying22 rfl (by rw [nums_size _ _ _ N_.out]; kernel_rfl)) rfl ⟨rfl, ?_⟩
      exact t4.below hB.out (by omega)

open Go.Proofs.YtkghgjehjchajaaW Go.Proofs.YtkghgjehjchajaaW.PrintHand Go.Proofs.YtkghgjehjchajaaW.PrintHx
/-! ### laws_toRoot: function 12 -/
def laws_toRoot.f (a0 : List Int) : Option (List Int) := if a0.length = 15 then some a0 else none
theorem laws_toRoot.same (a0 : List Int) (h : a0.length = 15) (M4 M6 M7 M8 : List Int) (q4 : M4 = (List.replicate 15 0).set 0 (a0.getD 0 0)) (q6 : M6 = M4.take 1 ++ (seg a0 1 12) ++ M4.drop (1 + 12)) (q7 : M7 = M6.set 13 (a0.getD 13 0)) (q8 : M8 = M7.set 14 (a0.getD 14 0)) : M8 = a0 := by
  subst q4
  subst q6
  subst q7
  subst q8
  obtain ⟨x0, a1, rfl, h0⟩ := cons_of_len h
  obtain ⟨x1, a2, rfl, h1⟩ := cons_of_len h0
  obtain ⟨x2, a3, rfl, h2⟩ := cons_of_len h1
  obtain ⟨x3, a4, rfl, h3⟩ := cons_of_len h2
  obtain ⟨x4, a5, rfl, h4⟩ := cons_of_len h3
  obtain ⟨x5, a6, rfl, h5⟩ := cons_of_len h4
  obtain ⟨x6, a7, rfl, h6⟩ := cons_of_len h5
  obtain ⟨x7, a8, rfl, h7⟩ := cons_of_len h6
  obtain ⟨x8, a9, rfl, h8⟩ := cons_of_len h7
  obtain ⟨x9, a10, rfl, h9⟩ := cons_of_len h8
  obtain ⟨x10, a11, rfl, h10⟩ := cons_of_len h9
  obtain ⟨x11, a12, rfl, h11⟩ := cons_of_len h10
  obtain ⟨x12, a13, rfl, h12⟩ := cons_of_len h11
  obtain ⟨x13, a14, rfl, h13⟩ := cons_of_len h12
  obtain ⟨x14, a15, rfl, h14⟩ := cons_of_len h13
  obtain rfl := List.length_eq_zero_iff.mp h14
  rfl
set_option maxHeartbeats 8000000 in
set_option maxRecDepth 100000 in
theorem laws_toRoot.calls (a0 : List Int) (n0 : a0.length = 15) (r : List Int) (w : World) (h : laws_toRoot.f a0 = some r) :
    Calls Try.prog 12 #[.agg (nums .i64 a0).toArray] w fun e w' => e = .returned (.agg (nums .i64 r).toArray) ∧ Below w.heap.size w w' := by
  unfold laws_toRoot.f at h
  rw [if_pos n0] at h
  obtain rfl := Option.some.inj h
  have N_ := Aside0.mk n0
  clear n0 h
  have HB0 : Aside0 (Below w.heap.size w w) := ⟨Below.refl _ _⟩
  obtain ⟨s0, Sz0⟩ : ∃ s0, Aside0 (w.heap.size = s0) := ⟨_, ⟨rfl⟩⟩
  have hw0 : w.heap.size ≤ s0 := Nat.le_of_eq Sz0.out
  have hw1 : s0 ≤ w.heap.size := Nat.le_of_eq Sz0.out.symm
  have Z28 : ∀ w, (zeroValue 28).run Try.prog w = .ok (.agg (nums .i64 (List.replicate 15 0)).toArray) w := fun _ => by kernel_rfl
  go_enter Try.func12, Try.ntmps12
  go_wp2_with (first | ((with_reducible refine gate_dst (N := 1) rfl ?_); refine hx_box rfl 1 rfl 24 (.tmp 0) rfl Sz0 (.agg (nums .i64 a0).toArray) (nums .i64 a0).toArray rfl rfl ?_; intro w1 s1 L1 Sz1 b1 g_; have H1_1 := Aside0.mk g_; clear g_; have K0 := kept_below b1; have HB1 := Aside0.mk (below_then HB0.out HB0.out.size b1); clear b1; clear K0 HB0) | ((with_reducible refine gate_dst (N := 2) rfl ?_); refine hx_alloc rfl 2 rfl 28 rfl Sz1 (.agg (nums .i64 (List.replicate 15 0)).toArray) (nums .i64 (List.replicate 15 0)).toArray Z28 rfl ?_; intro w2 s2 L2 Sz2 b2 g_; have H2_2 := Aside0.mk g_; clear g_; have K1 := kept_below b2; have HB2 := Aside0.mk (below_then HB1.out HB1.out.size b2); have H1_2 := Aside0.mk (blk_kept H1_1.out K1 (fun h_ => h_)); clear b2; clear K1 HB1 H1_1) | ((with_reducible refine gate_dst (N := 3) rfl ?_); refine hx_alloc rfl 3 rfl 28 rfl Sz2 (.agg (nums .i64 (List.replicate 15 0)).toArray) (nums .i64 (List.replicate 15 0)).toArray Z28 rfl ?_; intro w3 s3 L3 Sz3 b3 g_; have H3_3 := Aside0.mk g_; clear g_; have K2 := kept_below b3; have HB3 := Aside0.mk (below_then HB2.out HB2.out.size b3); have H1_3 := Aside0.mk (blk_kept H1_2.out K2 (fun h_ => h_)); have H2_3 := Aside0.mk (blk_kept H2_2.out K2 (fun h_ => h_)); clear b3; clear K2 HB2 H1_2 H2_2) | ((with_reducible refine gate_dst (N := 5) rfl ?_); refine hx_loadf rfl 3 (.tmp 4) rfl s0 0 rfl Try.underlying3 rfl H1_3.out (lt_len (n := 15) N_.out (by decide)) ?_) | ((with_reducible refine gate_store (t := 3) (p := 6) (v := .tmp 5) rfl ?_); refine hx_storef rfl rfl 3 (.tmp 6) (.tmp 5) rfl s2 0 rfl (a0.getD 0 0) rfl (by kernel_rfl) H3_3.out (lt_len (n := 15) (by simp) (by decide)) ?_; intro w4 M4 t4 Q4 l_ g4; have N4 : Aside0 (M4.length = 15) := ⟨l_.out.trans (by simp)⟩; clear l_; have K3 := kept_touch t4; have HB4 := Aside0.mk (t4.below HB3.out (by omega)); have H1_4 := Aside0.mk (blk_kept H1_3.out K3 (by show ¬ (_ = _); omega)); have H2_4 := Aside0.mk (blk_kept H2_3.out K3 (by show ¬ (_ = _); omega)); have H3_4 := Aside0.mk g4; have Sz4 := Aside0.mk (t4.size.trans Sz3.out); clear t4 g4; clear K3 HB3 H1_3 H2_3 H3_3) | ((with_reducible refine gate_dst (N := 8) rfl ?_); refine hx_loadp rfl 22 (.tmp 7) rfl s0 1 12 rfl Try.underlying22 rfl (by kernel_rfl) H1_4.out (le_len (n := 15) N_.out (by decide)) ?_) | ((with_reducible refine gate_dst (N := 9) rfl ?_); refine goesL_ (some 9) rfl rfl Try.func43 (by kernel_rfl) rfl #[.agg (nums .i64 (seg a0 1 12)).toArray] rfl (by (try simp only [List.map_toArray, List.map_cons, List.map_nil]); first | done | rfl) ?_; refine (laws_toIntA12.calls _ (part_len (n := 15) N_.out (by decide)) _ _ (if_pos (part_len (n := 15) N_.out (by decide)))).mono ?_; rintro e_ w5 ⟨rfl, b5⟩; refine ⟨_, rfl, ?_⟩; obtain ⟨s5, L5, Sz5⟩ := size_letter Sz4 (kept_below b5); have K4 := kept_below b5; have HB5 := Aside0.mk (below_then HB4.out HB4.out.size b5); have H1_5 := Aside0.mk (blk_kept H1_4.out K4 (fun h_ => h_)); have H2_5 := Aside0.mk (blk_kept H2_4.out K4 (fun h_ => h_)); have H3_5 := Aside0.mk (blk_kept H3_4.out K4 (fun h_ => h_)); clear b5; clear K4 HB4 H1_4 H2_4 H3_4) | ((with_reducible refine gate_store (t := 22) (p := 10) (v := .tmp 9) rfl ?_); refine hx_storep rfl rfl 22 (.tmp 10) (.tmp 9) rfl s2 1 12 rfl (seg a0 1 12) rfl (by kernel_rfl) (part_len (n := 15) N_.out (by decide)) H3_5.out (le_len (n := 15) N4.out (by decide)) ?_; intro w6 M6 t6 Q6 l_ g6; have N6 : Aside0 (M6.length = 15) := ⟨l_.out.trans N4.out⟩; clear l_; have K5 := kept_touch t6; have HB6 := Aside0.mk (t6.below HB5.out (by omega)); have H1_6 := Aside0.mk (blk_kept H1_5.out K5 (by show ¬ (_ = _); omega)); have H2_6 := Aside0.mk (blk_kept H2_5.out K5 (by show ¬ (_ = _); omega)); have H3_6 := Aside0.mk g6; have Sz6 := Aside0.mk (t6.size.trans Sz5.out); clear t6 g6; clear K5 HB5 H1_5 H2_5 H3_5) | ((with_reducible refine gate_dst (N := 12) rfl ?_); refine hx_loadf rfl 3 (.tmp 11) rfl s0 13 rfl Try.underlying3 rfl H1_6.out (lt_len (n := 15) N_.out (by decide)) ?_) | ((with_reducible refine gate_store (t := 3) (p := 13) (v := .tmp 12) rfl ?_); refine hx_storef rfl rfl 3 (.tmp 13) (.tmp 12) rfl s2 13 rfl (a0.getD 13 0) rfl (by kernel_rfl) H3_6.out (lt_len (n := 15) N6.out (by decide)) ?_; intro w7 M7 t7 Q7 l_ g7; have N7 : Aside0 (M7.length = 15) := ⟨l_.out.trans N6.out⟩; clear l_; have K6 := kept_touch t7; have HB7 := Aside0.mk (t7.below HB6.out (by omega)); have H1_7 := Aside0.mk (blk_kept H1_6.out K6 (by show ¬ (_ = _); omega)); have H2_7 := Aside0.mk (blk_kept H2_6.out K6 (by show ¬ (_ = _); omega)); have H3_7 := Aside0.mk g7; have Sz7 := Aside0.mk (t7.size.trans Sz6.out); clear t7 g7; clear K6 HB6 H1_6 H2_6 H3_6) | ((with_reducible refine gate_dst (N := 15) rfl ?_); refine hx_loadf rfl 3 (.tmp 14) rfl s0 14 rfl Try.underlying3 rfl H1_7.out (lt_len (n := 15) N_.out (by decide)) ?_) | ((with_reducible refine gate_store (t := 3) (p := 16) (v := .tmp 15) rfl ?_); refine hx_storef rfl rfl 3 (.tmp 16) (.tmp 15) rfl s2 14 rfl (a0.getD 14 0) rfl (by kernel_rfl) H3_7.out (lt_len (n := 15) N7.out (by decide)) ?_; intro w8 M8 t8 Q8 l_ g8; have N8 : Aside0 (M8.length = 15) := ⟨l_.out.trans N7.out⟩; clear l_; have K7 := kept_touch t8; have HB8 := Aside0.mk (t8.below HB7.out (by omega)); have H1_8 := Aside0.mk (blk_kept H1_7.out K7 (by show ¬ (_ = _); omega)); have H2_8 := Aside0.mk (blk_kept H2_7.out K7 (by show ¬ (_ = _); omega)); have H3_8 := Aside0.mk g8; have Sz8 := Aside0.mk (t8.size.trans Sz7.out); clear t8 g8; clear K7 HB7 H1_7 H2_7 H3_7) | ((with_reducible refine gate_dst (N := 17) rfl ?_); refine hx_load rfl 28 (.tmp 3) rfl s2 15 rfl Try.underlying28 rfl (by kernel_rfl) H3_8.out (nums_size _ _ _ N8.out) ?_) | ((with_reducible refine gate_store (t := 28) (p := 2) (v := .tmp 17) rfl ?_); refine hx_store rfl rfl 28 (.tmp 2) (.tmp 17) rfl s1 15 rfl (nums .i64 M8).toArray rfl (by kernel_rfl) (nums_size _ _ _ N8.out) (nums_one _ _) H2_8.out (nums_size _ _ _ (by simp)) ?_; intro w9 t9 g9; have K8 := kept_touch t9; have HB9 := Aside0.mk (t9.below HB8.out (by omega)); have H1_9 := Aside0.mk (blk_kept H1_8.out K8 (by show ¬ (_ = _); omega)); have H2_9 := Aside0.mk g9; have H3_9 := Aside0.mk (blk_kept H3_8.out K8 (by show ¬ (_ = _); omega)); have Sz9 := Aside0.mk (t9.size.trans Sz8.out); clear t9 g9; clear K8 HB8 H1_8 H2_8 H3_8))
  have e_ := laws_toRoot.same a0 N_.out _ _ _ _ Q4.out Q6.out Q7.out Q8.out
  have HF := H2_9.out
  rw [e_] at HF
  exact bodyPost_ret (results_cell_row rfl _ _ s1 28 _ (0, 0) _ rfl HF Try.underlying28 rfl (by rw [nums_size _ _ _ N_.out]; kernel_rfl)) rfl ⟨rfl, HB9.out⟩

open Go.Proofs.YtkghgjehjchajaaW Go.Proofs.YtkghgjehjchajaaW.PrintHand Go.Proofs.YtkghgjehjchajaaW.PrintHx
/-! ### laws_toInode: function 22 -/
def laws_toInode.f (a0 : List Int) : Option (List Int) := if a0.length = 24 then some a0 else none
theorem laws_toInode.same (a0 : List Int) (h : a0.length = 24) (M4 M5 M6 M7 M8 M9 M10 M11 M12 M14 : List Int) (q4 : M4 = (List.replicate 24 0).set 0 (a0.getD 0 0)) (q5 : M5 = M4.set 1 (a0.getD 1 0)) (q6 : M6 = M5.set 2 (a0.getD 2 0)) (q7 : M7 = M6.set 3 (a0.getD 3 0)) (q8 : M8 = M7.set 4 (a0.getD 4 0)) (q9 : M9 = M8.set 5 (a0.getD 5 0)) (q10 : M10 = M9.set 6 (a0.getD 6 0)) (q11 : M11 = M10.set 7 (a0.getD 7 0)) (q12 : M12 = M11.set 8 (a0.getD 8 0)) (q14 : M14 = M12.take 9 ++ (seg a0 9 15) ++ M12.drop (9 + 15)) : M14 = a0 := by
  subst q4
  subst q5
  subst q6
  subst q7
  subst q8
  subst q9
  subst q10
  subst q11
  subst q12
  subst q14
  obtain ⟨x0, a1, rfl, h0⟩ := cons_of_len h
  obtain ⟨x1, a2, rfl, h1⟩ := cons_of_len h0
  obtain ⟨x2, a3, rfl, h2⟩ := cons_of_len h1
  obtain ⟨x3, a4, rfl, h3⟩ := cons_of_len h2
  obtain ⟨x4, a5, rfl, h4⟩ := cons_of_len h3
  obtain ⟨x5, a6, rfl, h5⟩ := cons_of_len h4
  obtain ⟨x6, a7, rfl, h6⟩ := cons_of_len h5
  obtain ⟨x7, a8, rfl, h7⟩ := cons_of_len h6
  obtain ⟨x8, a9, rfl, h8⟩ := cons_of_len h7
  obtain ⟨x9, a10, rfl, h9⟩ := cons_of_len h8
  obtain ⟨x10, a11, rfl, h10⟩ := cons_of_len h9
  obtain ⟨x11, a12, rfl, h11⟩ := cons_of_len h10
  obtain ⟨x12, a13, rfl, h12⟩ := cons_of_len h11
  obtain ⟨x13, a14, rfl, h13⟩ := cons_of_len h12
  obtain ⟨x14, a15, rfl, h14⟩ := cons_of_len h13
  obtain ⟨x15, a16, rfl, h15⟩ := cons_of_len h14
  obtain ⟨x16, a17, rfl, h16⟩ := cons_of_len h15
  obtain ⟨x17, a18, rfl, h17⟩ := cons_of_len h16
  obtain ⟨x18, a19, rfl, h18⟩ := cons_of_len h17
  obtain ⟨x19, a20, rfl, h19⟩ := cons_of_len h18
  obtain ⟨x20, a21, rfl, h20⟩ := cons_of_len h19
  obtain ⟨x21, a22, rfl, h21⟩ := cons_of_len h20
  obtain ⟨x22, a23, rfl, h22⟩ := cons_of_len h21
  obtain ⟨x23, a24, rfl, h23⟩ := cons_of_len h22
  obtain rfl := List.length_eq_zero_iff.mp h23
  rfl
set_option maxHeartbeats 8000000 in
set_option maxRecDepth 100000 in
theorem laws_toInode.calls (a0 : List Int) (n0 : a0.length = 24) (r : List Int) (w : World) (h : laws_toInode.f a0 = some r) :
    Calls Try.prog 22 #[.agg (nums .i64 a0).toArray] w fun e w' => e = .returned (.agg (nums .i64 r).toArray) ∧ Below w.heap.size w w' := by
  unfold laws_toInode.f at h
  rw [if_pos n0] at h
  obtain rfl := Option.some.inj h
  have N_ := Aside0.mk n0
  clear n0 h
  have HB0 : Aside0 (Below w.heap.size w w) := ⟨Below.refl _ _⟩
  obtain ⟨s0, Sz0⟩ : ∃ s0, Aside0 (w.heap.size = s0) := ⟨_, ⟨rfl⟩⟩
  have hw0 : w.heap.size ≤ s0 := Nat.le_of_eq Sz0.out
  have hw1 : s0 ≤ w.heap.size := Nat.le_of_eq Sz0.out.symm
  have Z42 : ∀ w, (zeroValue 42).run Try.prog w = .ok (.agg (nums .i64 (List.replicate 24 0)).toArray) w := fun _ => by kernel_rfl
  go_enter Try.func22, Try.ntmps22
  go_wp2_with (first | ((with_reducible refine gate_dst (N := 1) rfl ?_); refine hx_box rfl 1 rfl 39 (.tmp 0) rfl Sz0 (.agg (nums .i64 a0).toArray) (nums .i64 a0).toArray rfl rfl ?_; intro w1 s1 L1 Sz1 b1 g_; have H1_1 := Aside0.mk g_; clear g_; have K0 := kept_below b1; have HB1 := Aside0.mk (below_then HB0.out HB0.out.size b1); clear b1; clear K0 HB0) | ((with_reducible refine gate_dst (N := 2) rfl ?_); refine hx_alloc rfl 2 rfl 42 rfl Sz1 (.agg (nums .i64 (List.replicate 24 0)).toArray) (nums .i64 (List.replicate 24 0)).toArray Z42 rfl ?_; intro w2 s2 L2 Sz2 b2 g_; have H2_2 := Aside0.mk g_; clear g_; have K1 := kept_below b2; have HB2 := Aside0.mk (below_then HB1.out HB1.out.size b2); have H1_2 := Aside0.mk (blk_kept H1_1.out K1 (fun h_ => h_)); clear b2; clear K1 HB1 H1_1) | ((with_reducible refine gate_dst (N := 3) rfl ?_); refine hx_alloc rfl 3 rfl 42 rfl Sz2 (.agg (nums .i64 (List.replicate 24 0)).toArray) (nums .i64 (List.replicate 24 0)).toArray Z42 rfl ?_; intro w3 s3 L3 Sz3 b3 g_; have H3_3 := Aside0.mk g_; clear g_; have K2 := kept_below b3; have HB3 := Aside0.mk (below_then HB2.out HB2.out.size b3); have H1_3 := Aside0.mk (blk_kept H1_2.out K2 (fun h_ => h_)); have H2_3 := Aside0.mk (blk_kept H2_2.out K2 (fun h_ => h_)); clear b3; clear K2 HB2 H1_2 H2_2) | ((with_reducible refine gate_dst (N := 5) rfl ?_); refine hx_loadf rfl 3 (.tmp 4) rfl s0 0 rfl Try.underlying3 rfl H1_3.out (lt_len (n := 24) N_.out (by decide)) ?_) | ((with_reducible refine gate_store (t := 3) (p := 6) (v := .tmp 5) rfl ?_); refine hx_storef rfl rfl 3 (.tmp 6) (.tmp 5) rfl s2 0 rfl (a0.getD 0 0) rfl (by kernel_rfl) H3_3.out (lt_len (n := 24) (by simp) (by decide)) ?_; intro w4 M4 t4 Q4 l_ g4; have N4 : Aside0 (M4.length = 24) := ⟨l_.out.trans (by simp)⟩; clear l_; have K3 := kept_touch t4; have HB4 := Aside0.mk (t4.below HB3.out (by omega)); have H1_4 := Aside0.mk (blk_kept H1_3.out K3 (by show ¬ (_ = _); omega)); have H2_4 := Aside0.mk (blk_kept H2_3.out K3 (by show ¬ (_ = _); omega)); have H3_4 := Aside0.mk g4; have Sz4 := Aside0.mk (t4.size.trans Sz3.out); clear t4 g4; clear K3 HB3 H1_3 H2_3 H3_3) | ((with_reducible refine gate_dst (N := 8) rfl ?_); refine hx_loadf rfl 3 (.tmp 7) rfl s0 1 rfl Try.underlying3 rfl H1_4.out (lt_len (n := 24) N_.out (by decide)) ?_) | ((with_reducible refine gate_store (t := 3) (p := 9) (v := .tmp 8) rfl ?_); refine hx_storef rfl rfl 3 (.tmp 9) (.tmp 8) rfl s2 1 rfl (a0.getD 1 0) rfl (by kernel_rfl) H3_4.out (lt_len (n := 24) N4.out (by decide)) ?_; intro w5 M5 t5 Q5 l_ g5; have N5 : Aside0 (M5.length = 24) := ⟨l_.out.trans N4.out⟩; clear l_; have K4 := kept_touch t5; have HB5 := Aside0.mk (t5.below HB4.out (by omega)); have H1_5 := Aside0.mk (blk_kept H1_4.out K4 (by show ¬ (_ = _); omega)); have H2_5 := Aside0.mk (blk_kept H2_4.out K4 (by show ¬ (_ = _); omega)); have H3_5 := Aside0.mk g5; have Sz5 := Aside0.mk (t5.size.trans Sz4.out); clear t5 g5; clear K4 HB4 H1_4 H2_4 H3_4) | ((with_reducible refine gate_dst (N := 11) rfl ?_); refine hx_loadf rfl 3 (.tmp 10) rfl s0 2 rfl Try.underlying3 rfl H1_5.out (lt_len (n := 24) N_.out (by decide)) ?_) | ((with_reducible refine gate_store (t := 3) (p := 12) (v := .tmp 11) rfl ?_); refine hx_storef rfl rfl 3 (.tmp 12) (.tmp 11) rfl s2 2 rfl (a0.getD 2 0) rfl (by kernel_rfl) H3_5.out (lt_len (n := 24) N5.out (by decide)) ?_; intro w6 M6 t6 Q6 l_ g6; have N6 : Aside0 (M6.length = 24) := ⟨l_.out.trans N5.out⟩; clear l_; have K5 := kept_touch t6; have HB6 := Aside0.mk (t6.below HB5.out (by omega)); have H1_6 := Aside0.mk (blk_kept H1_5.out K5 (by show ¬ (_ = _); omega)); have H2_6 := Aside0.mk (blk_kept H2_5.out K5 (by show ¬ (_ = _); omega)); have H3_6 := Aside0.mk g6; have Sz6 := Aside0.mk (t6.size.trans Sz5.out); clear t6 g6; clear K5 HB5 H1_5 H2_5 H3_5) | ((with_reducible refine gate_dst (N := 14) rfl ?_); refine hx_loadf rfl 3 (.tmp 13) rfl s0 3 rfl Try.underlying3 rfl H1_6.out (lt_len (n := 24) N_.out (by decide)) ?_) | ((with_reducible refine gate_store (t := 3) (p := 15) (v := .tmp 14) rfl ?_); refine hx_storef rfl rfl 3 (.tmp 15) (.tmp 14) rfl s2 3 rfl (a0.getD 3 0) rfl (by kernel_rfl) H3_6.out (lt_len (n := 24) N6.out (by decide)) ?_; intro w7 M7 t7 Q7 l_ g7; have N7 : Aside0 (M7.length = 24) := ⟨l_.out.trans N6.out⟩; clear l_; have K6 := kept_touch t7; have HB7 := Aside0.mk (t7.below HB6.out (by omega)); have H1_7 := Aside0.mk (blk_kept H1_6.out K6 (by show ¬ (_ = _); omega)); have H2_7 := Aside0.mk (blk_kept H2_6.out K6 (by show ¬ (_ = _); omega)); have H3_7 := Aside0.mk g7; have Sz7 := Aside0.mk (t7.size.trans Sz6.out); clear t7 g7; clear K6 HB6 H1_6 H2_6 H3_6) | ((with_reducible refine gate_dst (N := 17) rfl ?_); refine hx_loadf rfl 3 (.tmp 16) rfl s0 4 rfl Try.underlying3 rfl H1_7.out (lt_len (n := 24) N_.out (by decide)) ?_) | ((with_reducible refine gate_store (t := 3) (p := 18) (v := .tmp 17) rfl ?_); refine hx_storef rfl rfl 3 (.tmp 18) (.tmp 17) rfl s2 4 rfl (a0.getD 4 0) rfl (by kernel_rfl) H3_7.out (lt_len (n := 24) N7.out (by decide)) ?_; intro w8 M8 t8 Q8 l_ g8; have N8 : Aside0 (M8.length = 24) := ⟨l_.out.trans N7.out⟩; clear l_; have K7 := kept_touch t8; have HB8 := Aside0.mk (t8.below HB7.out (by omega)); have H1_8 := Aside0.mk (blk_kept H1_7.out K7 (by show ¬ (_ = _); omega)); have H2_8 := Aside0.mk (blk_kept H2_7.out K7 (by show ¬ (_ = _); omega)); have H3_8 := Aside0.mk g8; have Sz8 := Aside0.mk (t8.size.trans Sz7.out); clear t8 g8; clear K7 HB7 H1_7 H2_7 H3_7) | ((with_reducible refine gate_dst (N := 20) rfl ?_); refine hx_loadf rfl 3 (.tmp 19) rfl s0 5 rfl Try.underlying3 rfl H1_8.out (lt_len (n := 24) N_.out (by decide)) ?_) | ((with_reducible refine gate_store (t := 3) (p := 21) (v := .tmp 20) rfl ?_); refine hx_storef rfl rfl 3 (.tmp 21) (.tmp 20) rfl s2 5 rfl (a0.getD 5 0) rfl (by kernel_rfl) H3_8.out (lt_len (n := 24) N8.out (by decide)) ?_; intro w9 M9 t9 Q9 l_ g9; have N9 : Aside0 (M9.length = 24) := ⟨l_.out.trans N8.out⟩; clear l_; have K8 := kept_touch t9; have HB9 := Aside0.mk (t9.below HB8.out (by omega)); have H1_9 := Aside0.mk (blk_kept H1_8.out K8 (by show ¬ (_ = _); omega)); have H2_9 := Aside0.mk (blk_kept H2_8.out K8 (by show ¬ (_ = _); omega)); have H3_9 := Aside0.mk g9; have Sz9 := Aside0.mk (t9.size.trans Sz8.out); clear t9 g9; clear K8 HB8 H1_8 H2_8 H3_8) | ((with_reducible refine gate_dst (N := 23) rfl ?_); refine hx_loadf rfl 3 (.tmp 22) rfl s0 6 rfl Try.underlying3 rfl H1_9.out (lt_len (n := 24) N_.out (by decide)) ?_) | ((with_reducible refine gate_store (t := 3) (p := 24) (v := .tmp 23) rfl ?_); refine hx_storef rfl rfl 3 (.tmp 24) (.tmp 23) rfl s2 6 rfl (a0.getD 6 0) rfl (by kernel_rfl) H3_9.out (lt_len (n := 24) N9.out (by decide)) ?_; intro w10 M10 t10 Q10 l_ g10; have N10 : Aside0 (M10.length = 24) := ⟨l_.out.trans N9.out⟩; clear l_; have K9 := kept_touch t10; have HB10 := Aside0.mk (t10.below HB9.out (by omega)); have H1_10 := Aside0.mk (blk_kept H1_9.out K9 (by show ¬ (_ = _); omega)); have H2_10 := Aside0.mk (blk_kept H2_9.out K9 (by show ¬ (_ = _); omega)); have H3_10 := Aside0.mk g10; have Sz10 := Aside0.mk (t10.size.trans Sz9.out); clear t10 g10; clear K9 HB9 H1_9 H2_9 H3_9) | ((with_reducible refine gate_dst (N := 26) rfl ?_); refine hx_loadf rfl 3 (.tmp 25) rfl s0 7 rfl Try.underlying3 rfl H1_10.out (lt_len (n := 24) N_.out (by decide)) ?_) | ((with_reducible refine gate_store (t := 3) (p := 27) (v := .tmp 26) rfl ?_); refine hx_storef rfl rfl 3 (.tmp 27) (.tmp 26) rfl s2 7 rfl (a0.getD 7 0) rfl (by kernel_rfl) H3_10.out (lt_len (n := 24) N10.out (by decide)) ?_; intro w11 M11 t11 Q11 l_ g11; have N11 : Aside0 (M11.length = 24) := ⟨l_.out.trans N10.out⟩; clear l_; have K10 := kept_touch t11; have HB11 := Aside0.mk (t11.below HB10.out (by omega)); have H1_11 := Aside0.mk (blk_kept H1_10.out K10 (by show ¬ (_ = _); omega)); have H2_11 := Aside0.mk (blk_kept H2_10.out K10 (by show ¬ (_ = _); omega)); have H3_11 := Aside0.mk g11; have Sz11 := Aside0.mk (t11.size.trans Sz10.out); clear t11 g11; clear K10 HB10 H1_10 H2_10 H3_10) | ((with_reducible refine gate_dst (N := 29) rfl ?_); refine hx_loadf rfl 3 (.tmp 28) rfl s0 8 rfl Try.underlying3 rfl H1_11.out (lt_len (n := 24) N_.out (by decide)) ?_) | ((with_reducible refine gate_store (t := 3) (p := 30) (v := .tmp 29) rfl ?_); refine hx_storef rfl rfl 3 (.tmp 30) (.tmp 29) rfl s2 8 rfl (a0.getD 8 0) rfl (by kernel_rfl) H3_11.out (lt_len (n := 24) N11.out (by decide)) ?_; intro w12 M12 t12 Q12 l_ g12; have N12 : Aside0 (M12.length = 24) := ⟨l_.out.trans N11.out⟩; clear l_; have K11 := kept_touch t12; have HB12 := Aside0.mk (t12.below HB11.out (by omega)); have H1_12 := Aside0.mk (blk_kept H1_11.out K11 (by show ¬ (_ = _); omega)); have H2_12 := Aside0.mk (blk_kept H2_11.out K11 (by show ¬ (_ = _); omega)); have H3_12 := Aside0.mk g12; have Sz12 := Aside0.mk (t12.size.trans Sz11.out); clear t12 g12; clear K11 HB11 H1_11 H2_11 H3_11) | ((with_reducible refine gate_dst (N := 32) rfl ?_); refine hx_loadp rfl 24 (.tmp 31) rfl s0 9 15 rfl Try.underlying24 rfl (by kernel_rfl) H1_12.out (le_len (n := 24) N_.out (by decide)) ?_) | ((with_reducible refine gate_dst (N := 33) rfl ?_); refine goesL_ (some 33) rfl rfl Try.func12 (by kernel_rfl) rfl #[.agg (nums .i64 (seg a0 9 15)).toArray] rfl (by (try simp only [List.map_toArray, List.map_cons, List.map_nil]); first | done | rfl) ?_; refine (laws_toRoot.calls _ (part_len (n := 24) N_.out (by decide)) _ _ (if_pos (part_len (n := 24) N_.out (by decide)))).mono ?_; rintro e_ w13 ⟨rfl, b13⟩; refine ⟨_, rfl, ?_⟩; obtain ⟨s13, L13, Sz13⟩ := size_letter Sz12 (kept_below b13); have K12 := kept_below b13; have HB13 := Aside0.mk (below_then HB12.out HB12.out.size b13); have H1_13 := Aside0.mk (blk_kept H1_12.out K12 (fun h_ => h_)); have H2_13 := Aside0.mk (blk_kept H2_12.out K12 (fun h_ => h_)); have H3_13 := Aside0.mk (blk_kept H3_12.out K12 (fun h_ => h_)); clear b13; clear K12 HB12 H1_12 H2_12 H3_12) | ((with_reducible refine gate_store (t := 28) (p := 34) (v := .tmp 33) rfl ?_); refine hx_storep rfl rfl 28 (.tmp 34) (.tmp 33) rfl s2 9 15 rfl (seg a0 9 15) rfl (by kernel_rfl) (part_len (n := 24) N_.out (by decide)) H3_13.out (le_len (n := 24) N12.out (by decide)) ?_; intro w14 M14 t14 Q14 l_ g14; have N14 : Aside0 (M14.length = 24) := ⟨l_.out.trans N12.out⟩; clear l_; have K13 := kept_touch t14; have HB14 := Aside0.mk (t14.below HB13.out (by omega)); have H1_14 := Aside0.mk (blk_kept H1_13.out K13 (by show ¬ (_ = _); omega)); have H2_14 := Aside0.mk (blk_kept H2_13.out K13 (by show ¬ (_ = _); omega)); have H3_14 := Aside0.mk g14; have Sz14 := Aside0.mk (t14.size.trans Sz13.out); clear t14 g14; clear K13 HB13 H1_13 H2_13 H3_13) | ((with_reducible refine gate_dst (N := 35) rfl ?_); refine hx_load rfl 42 (.tmp 3) rfl s2 24 rfl Try.underlying42 rfl (by kernel_rfl) H3_14.out (nums_size _ _ _ N14.out) ?_) | ((with_reducible refine gate_store (t := 42) (p := 2) (v := .tmp 35) rfl ?_); refine hx_store rfl rfl 42 (.tmp 2) (.tmp 35) rfl s1 24 rfl (nums .i64 M14).toArray rfl (by kernel_rfl) (nums_size _ _ _ N14.out) (nums_one _ _) H2_14.out (nums_size _ _ _ (by simp)) ?_; intro w15 t15 g15; have K14 := kept_touch t15; have HB15 := Aside0.mk (t15.below HB14.out (by omega)); have H1_15 := Aside0.mk (blk_kept H1_14.out K14 (by show ¬ (_ = _); omega)); have H2_15 := Aside0.mk g15; have H3_15 := Aside0.mk (blk_kept H3_14.out K14 (by show ¬ (_ = _); omega)); have Sz15 := Aside0.mk (t15.size.trans Sz14.out); clear t15 g15; clear K14 HB14 H1_14 H2_14 H3_14))
  have e_ := laws_toInode.same a0 N_.out _ _ _ _ _ _ _ _ _ _ Q4.out Q5.out Q6.out Q7.out Q8.out Q9.out Q10.out Q11.out Q12.out Q14.out
  have HF := H2_15.out
  rw [e_] at HF
  exact bodyPost_ret (results_cell_row rfl _ _ s1 42 _ (0, 0) _ rfl HF Try.underlying42 rfl (by rw [nums_size _ _ _ N_.out]; kernel_rfl)) rfl ⟨rfl, HB15.out⟩

end Go.Proofs.Ytkghgjehjchajaa.PFnExactEncodeTable
