-- Written by a program of this session (patch_print.py over the kit print)
import Derived.Test.YtkghgjehjchajaaPFnExactDecodeTablex0
import Derived.Test.YtkghgjehjchajaaPFnExactDecodeTablex3
import Derived.Test.YtkghgjehjchajaaPFnExactDecodeTablex5
import Derived.Test.YtkghgjehjchajaaPFnExactDecodeTablex7
namespace Go.Proofs.Ytkghgjehjchajaa.PFnExactDecodeTable
open Go.RowKit Go.Proofs.YtkghgjehjchajaaW.PrintWords Go.Proofs.YtkghgjehjchajaaW.PrintLast Go.Proofs.YtkghgjehjchajaaW.PrintMore
attribute [local go_sem] max2_int min2_int max_two min_two max_three min_three max_four min_four   -- for this text's walks alone
set_option linter.unusedVariables false
set_option linter.unusedSimpArgs false

open Go.Proofs.YtkghgjehjchajaaW Go.Proofs.YtkghgjehjchajaaW.PrintHand Go.Proofs.YtkghgjehjchajaaW.PrintHx
/-! ### spec_l05Bytes: function 58 -/
open Go.Proofs.YtkghgjehjchajaaW.PrintLe Go.Proofs.YtkghgjehjchajaaW.PrintIno Go.Proofs.YtkghgjehjchajaaW.PrintTabl Go.Proofs.YtkghgjehjchajaaW.PrintTab2
def spec_l05Bytes.f (l0 : List (List Int)) : Option (List Int) := if allGood l0 = true ∧ lastOf l0 ≤ 1000 then some (tableBytes l0) else none
set_option maxHeartbeats 8000000 in
set_option maxRecDepth 100000 in
theorem spec_l05Bytes.calls (A0 : Option Addr) (c0 : Nat) (l0 : List (List Int)) (r : List Int) (w : World) (hr0 : Kd.C (PrintHx.wide 24) w A0 l0.length l0) (hc0 : l0.length ≤ c0) (h : spec_l05Bytes.f l0 = some r) :
    Calls Try.prog 58 #[.slice A0 l0.length c0] w fun e w' => ∃ v0_ : Value, e = .returned (v0_) ∧ Kd.R (Kd.int .u8) 5 w' w.heap.size (fun _ => True) v0_ r ∧ Below w.heap.size w w' := by
  unfold spec_l05Bytes.f at h
  by_cases hdom : allGood l0 = true ∧ lastOf l0 ≤ 1000
  case neg => rw [if_neg hdom] at h; cases h
  rw [if_pos hdom] at h
  obtain rfl := Option.some.inj h
  have HW := Aside0.mk (wide_len hr0)
  have HR0 := Aside0.mk hr0
  have HC0 := Aside0.mk hc0
  have HG := Aside0.mk hdom.1
  obtain ⟨m, hm⟩ : ∃ m : Nat, (m : Int) = lastOf l0 := ⟨(lastOf l0).toNat, by have := lastOf_pos l0; omega⟩
  have HM := Aside0.mk (show m ≤ 1000 by have := hdom.2; omega)
  have HRES := Aside0.mk (show tableBytes l0 = tableBytesTo l0 (m + 1) by unfold tableBytes; rw [show (lastOf l0).toNat = m by omega])
  have HLAST := Aside0.mk (show spec_l05Last.f l0 = some (m : Int) by rw [hm]; rfl)
  have HLEN := Aside0.mk (show l0.length ≤ 9223372036854775807 from hr0.2.1)
  have info5_ : (Try.prog.info? 5).map (fun i => (i.zero, i.size, i.bytes)) = some (some (.int .u8 0), 1, 1) := by kernel_rfl
  have Z42 : ∀ w, (zeroValue 42).run Try.prog w = .ok (.agg (nums .i64 (List.replicate 24 0)).toArray) w := fun _ => by kernel_rfl
  obtain ⟨zz, hzz⟩ : ∃ z, z = List.replicate 24 (0 : Int) := ⟨_, rfl⟩
  have ZZ := Aside0.mk hzz
  have NZ := Aside0.mk (show zz.length = 24 by rw [hzz]; simp)
  have HB := Aside0.mk (Below.refl w.heap.size w)
  clear hr0 hc0 h hdom hm hzz
  go_enter Try.func58, Try.ntmps58
  go_wp2
  (try simp only [Act.put, List.setIfInBounds_toArray, List.set_cons_succ, List.set_cons_zero])
  go_loopw [3, 4, 5] (fun v3 v4 v5 wr => ∃ (j : Nat) (u3 u5 : Value), u3 = v3 ∧ u5 = v5 ∧ v4 = .int .i64 (j : Int) ∧ Aside0 (j ≤ m + 1) ∧ Aside0 (Kd.R (Kd.int .u8) 5 wr w.heap.size (fun _ => True) v3 (tableBytesTo l0 j)) ∧ Aside0 (Below w.heap.size w wr)) (fun _ v4 _ _ => 1002 - (intOf v4).toNat)
  case atStart => exact ⟨0, _, _, rfl, rfl, rfl, ⟨Nat.zero_le _⟩, ⟨PrintRaw.own_blk (L := []) (blk_new _ _) (Nat.le_refl _) (by decide)⟩, ⟨below_alloc (Below.refl _ _) _⟩⟩
  case round =>
    clear HB
    obtain ⟨j, v3, v5, rfl, rfl, rfl, hj, OO, HB⟩ := hrel
    obtain ⟨bs, hbs⟩ : ∃ bs, bs = tableBytesTo l0 j := ⟨_, rfl⟩
    have HBL := Aside0.mk (show bs.length = 128 * j by rw [hbs]; exact tableBytesTo_length HW.out j)
    rw [← hbs] at OO
    have HBS := Aside0.mk hbs
    clear hbs
    by_cases c9 : j ≤ m
    · have c9b0 : decide ((j : Int) ≤ (m : Int)) = true := decide_eq_true (by omega)
      have c9b1 : decide (j ≤ m) = true := decide_eq_true c9
      have C9 := Aside0.mk c9
      clear c9
      obtain ⟨x, hx⟩ : ∃ x, x = atI l0 j := ⟨_, rfl⟩
      have HXL := Aside0.mk (show x.length = 24 by rw [hx]; exact atI_length HW.out j)
      have HXB := Aside0.mk (show spec_l02InodeBytes.f x = some (inodeBytes x) by rw [hx]; exact if_pos (atI_good HG.out j))
      have HYL := Aside0.mk (inodeBytes_length HXL.out)
      by_cases c10 : j < l0.length
      · have c10b0 : decide ((j : Int) < (l0.length : Int)) = true := decide_eq_true (by omega)
        have c10b1 : decide (j < l0.length) = true := decide_eq_true c10
        have q3 : ((j : Int) < (l0.length : Int)) = True := eq_true (by omega)
        have q4 : (0 ≤ (j : Int)) = True := eq_true (by omega)
        have q5 : (j < l0.length) = True := eq_true c10
        obtain ⟨ad, ea, hl, hc⟩ := wide_at HR0.out j c10
        have HAT := Aside0.mk (show x = l0.getD j [] by rw [hx]; unfold atI; rw [if_pos c10])
        rw [← HAT.out] at hl hc
        subst ea
        have HRC := Aside0.mk (fun (W : World) (hW : Below w.heap.size w W) => (show ∀ i, i < 24 → W.cell? (ad.add (j * 24 + i)) = some (.int .i64 (x.getD i 0)) from by
          obtain ⟨ad2, ea2, hl2, hc2⟩ := wide_at (Kd.C_below HR0.out hW) j c10
          cases ea2
          rw [← HAT.out] at hc2
          exact hc2))
        have HX := Aside0.mk hx
        clear hx c10 hl hc
        go_wp2_with (first | ((with_reducible refine gate_dst (N := 9) rfl ?_); refine goesL_ (some 9) rfl rfl Try.func57 (by kernel_rfl) rfl #[.slice (some ad) l0.length c0] rfl (by (try simp only [List.map_toArray, List.map_cons, List.map_nil]); first | done | rfl) ?_; refine (spec_l05Last.calls (some ad) c0 l0 _ _ (Kd.C_below HR0.out HB.out) HC0.out HLAST.out).mono ?_; rintro e_ w1 ⟨rfl, b_⟩; refine ⟨_, rfl, ?_⟩; have HB1 := Aside0.mk (below_then HB.out HB.out.size b_); obtain ⟨s1, Sz1⟩ : ∃ s, Aside0 (w1.heap.size = s) := ⟨_, ⟨rfl⟩⟩; have hs1 : w.heap.size ≤ s1 := (by rw [← Sz1.out]; exact HB1.out.size); have OO1 := Aside0.mk (Kd.R_mono (ok' := fun k => k < s1) (Kd.R_bound (Kd.R_below OO.out b_)) (fun k hk => by have h_ := hk.2.2.1; rw [Sz1.out] at h_; exact h_)); clear b_ HB OO) | ((with_reducible refine gate_dst (N := 5) rfl ?_); refine hx_alloc rfl 5 rfl 42 rfl Sz1 (.agg (nums .i64 (List.replicate 24 0)).toArray) (nums .i64 (List.replicate 24 0)).toArray Z42 rfl ?_; intro w2 s2 L2 Sz2 b_ g_; have HA := Aside0.mk g_; have HB2 := Aside0.mk (below_then HB1.out HB1.out.size b_); have OO2 := Aside0.mk (Kd.R_below OO1.out b_); clear b_ g_ HB1 OO1) | ((with_reducible refine gate_store (t := 42) (p := 5) (v := .tmp 13) rfl ?_); refine hx_store rfl rfl 42 (.tmp 5) (.tmp 13) rfl s1 24 rfl (nums .i64 zz).toArray (by rw [ZZ.out]; rfl) (by kernel_rfl) (nums_size _ _ _ NZ.out) (nums_one _ _) HA.out (by simp [nums]) ?_; intro w3 t_ gg_; have HA3 := Aside0.mk gg_; have HB3 := Aside0.mk (t_.below HB2.out (by omega)); have OO3 := Aside0.mk (Kd.R_kept OO2.out (kept_touch t_) (fun k hk h_ => by have h1_ : k = s1 := h_; have h2_ : k < s1 := hk; omega)); clear t_ gg_ HA HB2 OO2) | ((with_reducible refine gate_dst (N := 21) rfl ?_); refine hx_load_at rfl 42 (.tmp 20) rfl (ad.add (j * 24)) rfl x 24 Try.underlying42 rfl (by kernel_rfl) HXL.out (fun i hi => by rw [Addr.add_add]; exact HRC.out _ HB3.out i hi) ?_) | ((with_reducible refine gate_store (t := 42) (p := 5) (v := .tmp 21) rfl ?_); refine hx_store rfl rfl 42 (.tmp 5) (.tmp 21) rfl s1 24 rfl (nums .i64 x).toArray rfl (by kernel_rfl) (nums_size _ _ _ HXL.out) (nums_one _ _) HA3.out (nums_size _ _ _ NZ.out) ?_; intro w4 t_ gg_; have HA4 := Aside0.mk gg_; have HB4 := Aside0.mk (t_.below HB3.out (by omega)); have OO4 := Aside0.mk (Kd.R_kept OO3.out (kept_touch t_) (fun k hk h_ => by have h1_ : k = s1 := h_; have h2_ : k < s1 := hk; omega)); clear t_ gg_ HA3 HB3 OO3) | ((with_reducible refine gate_dst (N := 23) rfl ?_); refine hx_load rfl 42 (.tmp 5) rfl s1 24 rfl Try.underlying42 rfl (by kernel_rfl) HA4.out (nums_size _ _ _ HXL.out) ?_) | ((with_reducible refine gate_dst (N := 24) rfl ?_); refine goesL_ (some 24) rfl rfl Try.func51 (by kernel_rfl) rfl #[.agg (nums .i64 x).toArray] rfl (by (try simp only [List.map_toArray, List.map_cons, List.map_nil]); first | done | rfl) ?_; refine (spec_l02InodeBytes.calls x HXL.out (inodeBytes x) _ HXB.out).mono ?_; rintro e_ w5 ⟨v24, rfl, R_, b_⟩; obtain ⟨A24, c24, rfl⟩ := Kd.R_slice R_; refine ⟨_, rfl, ?_⟩; have O24 := Aside0.mk R_; have HB5 := Aside0.mk (below_then HB4.out HB4.out.size b_); have OO5 := Aside0.mk (Kd.R_mono (ok' := fun _ => True) (Kd.R_below OO4.out b_) (fun _ _ => trivial)); clear R_ b_ HB4 OO4) | ((with_reducible refine gate_dst (N := 25) rfl ?_); refine Kd.R_append_rows (Kd.int .u8) (w0 := w) w.heap.size rfl (.tmp 22) (.tmp 24) 25 5 (.int .u8 0) 1 rfl Try.underlying25 info5_ rfl (by decide) (by omega) v3 bs (inodeBytes x) _ _ _ (fun _ => True) (fun _ => False) rfl rfl OO5.out (Kd.R_reads' O24.out).2.2 (fun _ _ h => h) (fun _ h => h.elim) (fun _ _ => trivial) HB5.out HB5.out.size (by have h1_ := HBL.out; have h2_ := C9.out; have h3_ := HM.out; have h4_ := HYL.out; omega) ?_; intro v25 w6 ho hb hg_ hn_; have OO6 := Aside0.mk ho; have HB6 := Aside0.mk hb; clear ho hb hg_ hn_ HB5 OO5 O24))
        go_roundw
        case rel => exact ⟨j + 1, _, _, rfl, rfl, by rw [show wrap64 ((j : Int) + 1) = ((j + 1 : Nat) : Int) by (have := HM.out; have := C9.out; unfold wrap64; omega)], ⟨by have := C9.out; omega⟩, ⟨by rw [tableBytesTo_succ, ← HBS.out, ← HX.out]; exact OO6.out⟩, HB6⟩
        case measure =>
          rw [show wrap64 ((j : Int) + 1) = ((j + 1 : Nat) : Int) by (have := HM.out; have := C9.out; unfold wrap64; omega)]
          simp only [intOf, Int.toNat_natCast]
          have := C9.out
          have := HM.out
          omega
      · have c10b0 : decide ((j : Int) < (l0.length : Int)) = false := decide_eq_false (by omega)
        have c10b1 : decide (j < l0.length) = false := decide_eq_false c10
        have HXZ := Aside0.mk (show x = zz by rw [hx, ZZ.out]; unfold atI; rw [if_neg c10]; rfl)
        have HX := Aside0.mk hx
        clear hx c10
        go_wp2_with (first | ((with_reducible refine gate_dst (N := 9) rfl ?_); refine goesL_ (some 9) rfl rfl Try.func57 (by kernel_rfl) rfl #[.slice A0 l0.length c0] rfl (by (try simp only [List.map_toArray, List.map_cons, List.map_nil]); first | done | rfl) ?_; refine (spec_l05Last.calls A0 c0 l0 _ _ (Kd.C_below HR0.out HB.out) HC0.out HLAST.out).mono ?_; rintro e_ w1 ⟨rfl, b_⟩; refine ⟨_, rfl, ?_⟩; have HB1 := Aside0.mk (below_then HB.out HB.out.size b_); obtain ⟨s1, Sz1⟩ : ∃ s, Aside0 (w1.heap.size = s) := ⟨_, ⟨rfl⟩⟩; have hs1 : w.heap.size ≤ s1 := (by rw [← Sz1.out]; exact HB1.out.size); have OO1 := Aside0.mk (Kd.R_mono (ok' := fun k => k < s1) (Kd.R_bound (Kd.R_below OO.out b_)) (fun k hk => by have h_ := hk.2.2.1; rw [Sz1.out] at h_; exact h_)); clear b_ HB OO) | ((with_reducible refine gate_dst (N := 5) rfl ?_); refine hx_alloc rfl 5 rfl 42 rfl Sz1 (.agg (nums .i64 (List.replicate 24 0)).toArray) (nums .i64 (List.replicate 24 0)).toArray Z42 rfl ?_; intro w2 s2 L2 Sz2 b_ g_; have HA := Aside0.mk g_; have HB2 := Aside0.mk (below_then HB1.out HB1.out.size b_); have OO2 := Aside0.mk (Kd.R_below OO1.out b_); clear b_ g_ HB1 OO1) | ((with_reducible refine gate_store (t := 42) (p := 5) (v := .tmp 13) rfl ?_); refine hx_store rfl rfl 42 (.tmp 5) (.tmp 13) rfl s1 24 rfl (nums .i64 zz).toArray (by rw [ZZ.out]; rfl) (by kernel_rfl) (nums_size _ _ _ NZ.out) (nums_one _ _) HA.out (by simp [nums]) ?_; intro w3 t_ gg_; have HA3 := Aside0.mk gg_; have HB3 := Aside0.mk (t_.below HB2.out (by omega)); have OO3 := Aside0.mk (Kd.R_kept OO2.out (kept_touch t_) (fun k hk h_ => by have h1_ : k = s1 := h_; have h2_ : k < s1 := hk; omega)); clear t_ gg_ HA HB2 OO2) | ((with_reducible refine gate_dst (N := 23) rfl ?_); refine hx_load rfl 42 (.tmp 5) rfl s1 24 rfl Try.underlying42 rfl (by kernel_rfl) HA3.out (nums_size _ _ _ NZ.out) ?_) | ((with_reducible refine gate_dst (N := 24) rfl ?_); refine goesL_ (some 24) rfl rfl Try.func51 (by kernel_rfl) rfl #[.agg (nums .i64 zz).toArray] rfl (by (try simp only [List.map_toArray, List.map_cons, List.map_nil]); first | done | rfl) ?_; refine (spec_l02InodeBytes.calls zz NZ.out (inodeBytes x) _ (by rw [← HXZ.out]; exact HXB.out)).mono ?_; rintro e_ w5 ⟨v24, rfl, R_, b_⟩; obtain ⟨A24, c24, rfl⟩ := Kd.R_slice R_; refine ⟨_, rfl, ?_⟩; have O24 := Aside0.mk R_; have HB5 := Aside0.mk (below_then HB3.out HB3.out.size b_); have OO5 := Aside0.mk (Kd.R_mono (ok' := fun _ => True) (Kd.R_below OO3.out b_) (fun _ _ => trivial)); clear R_ b_ HB3 OO3) | ((with_reducible refine gate_dst (N := 25) rfl ?_); refine Kd.R_append_rows (Kd.int .u8) (w0 := w) w.heap.size rfl (.tmp 22) (.tmp 24) 25 5 (.int .u8 0) 1 rfl Try.underlying25 info5_ rfl (by decide) (by omega) v3 bs (inodeBytes x) _ _ _ (fun _ => True) (fun _ => False) rfl rfl OO5.out (Kd.R_reads' O24.out).2.2 (fun _ _ h => h) (fun _ h => h.elim) (fun _ _ => trivial) HB5.out HB5.out.size (by have h1_ := HBL.out; have h2_ := C9.out; have h3_ := HM.out; have h4_ := HYL.out; omega) ?_; intro v25 w6 ho hb hg_ hn_; have OO6 := Aside0.mk ho; have HB6 := Aside0.mk hb; clear ho hb hg_ hn_ HB5 OO5 O24))
        go_roundw
        case rel => exact ⟨j + 1, _, _, rfl, rfl, by rw [show wrap64 ((j : Int) + 1) = ((j + 1 : Nat) : Int) by (have := HM.out; have := C9.out; unfold wrap64; omega)], ⟨by have := C9.out; omega⟩, ⟨by rw [tableBytesTo_succ, ← HBS.out, ← HX.out]; exact OO6.out⟩, HB6⟩
        case measure =>
          rw [show wrap64 ((j : Int) + 1) = ((j + 1 : Nat) : Int) by (have := HM.out; have := C9.out; unfold wrap64; omega)]
          simp only [intOf, Int.toNat_natCast]
          have := C9.out
          have := HM.out
          omega
    · obtain rfl : j = m + 1 := by have := hj.out; omega
      have c9b0 : decide (((m + 1 : Nat) : Int) ≤ (m : Int)) = false := decide_eq_false (by omega)
      have c9b1 : decide (m + 1 ≤ m) = false := decide_eq_false c9
      have c9b2 : decide ((m : Int) + 1 ≤ (m : Int)) = false := decide_eq_false (by omega)
      clear c9
      go_wp2_with (first | ((with_reducible refine gate_dst (N := 9) rfl ?_); refine goesL_ (some 9) rfl rfl Try.func57 (by kernel_rfl) rfl #[.slice A0 l0.length c0] rfl (by (try simp only [List.map_toArray, List.map_cons, List.map_nil]); first | done | rfl) ?_; refine (spec_l05Last.calls A0 c0 l0 _ _ (Kd.C_below HR0.out HB.out) HC0.out HLAST.out).mono ?_; rintro e_ w1 ⟨rfl, b_⟩; refine ⟨_, rfl, ?_⟩; have HB1 := Aside0.mk (below_then HB.out HB.out.size b_); obtain ⟨s1, Sz1⟩ : ∃ s, Aside0 (w1.heap.size = s) := ⟨_, ⟨rfl⟩⟩; have hs1 : w.heap.size ≤ s1 := (by rw [← Sz1.out]; exact HB1.out.size); have OO1 := Aside0.mk (Kd.R_mono (ok' := fun k => k < s1) (Kd.R_bound (Kd.R_below OO.out b_)) (fun k hk => by have h_ := hk.2.2.1; rw [Sz1.out] at h_; exact h_)); clear b_ HB OO))
      go_ret
      rw [HRES.out, ← HBS.out]
      exact ⟨_, rfl, Kd.R_mono OO1.out (fun _ _ => trivial), HB1.out⟩

open Go.Proofs.YtkghgjehjchajaaW Go.Proofs.YtkghgjehjchajaaW.PrintHand Go.Proofs.YtkghgjehjchajaaW.PrintHx
/-! ### spec_EncodeTable: function 28 -/
open Go.Proofs.YtkghgjehjchajaaW.PrintLe Go.Proofs.YtkghgjehjchajaaW.PrintIno Go.Proofs.YtkghgjehjchajaaW.PrintTabl Go.Proofs.YtkghgjehjchajaaW.PrintTab2 Go.Proofs.YtkghgjehjchajaaW.PrintEqW
def spec_EncodeTable.f (l0 : List (List Int)) : Option (List Int × Int) := some (if tableGood l0 = true then (tableBytes l0, 0) else ([], 7))
set_option maxHeartbeats 8000000 in
set_option maxRecDepth 100000 in
theorem spec_EncodeTable.calls (A0 : Option Addr) (c0 : Nat) (l0 : List (List Int)) (r1 : List Int) (r2 : Int) (w : World) (hr0 : Kd.C (PrintHx.wide 24) w A0 l0.length l0) (hc0 : l0.length ≤ c0) (h : spec_EncodeTable.f l0 = some (r1, r2)) :
    Calls Try.prog 28 #[.slice A0 l0.length c0] w fun e w' => ∃ v0_ : Value, e = .returned (.tuple #[v0_, .int .i64 r2]) ∧ Kd.R (Kd.int .u8) 5 w' w.heap.size (fun _ => True) v0_ r1 ∧ Below w.heap.size w w' := by
  unfold spec_EncodeTable.f at h
  have HH := Aside0.mk h
  have HW := Aside0.mk (wide_len hr0)
  have HR0 := Aside0.mk hr0
  have HC0 := Aside0.mk hc0
  obtain ⟨m, hm⟩ : ∃ m : Nat, (m : Int) = lastOf l0 := ⟨(lastOf l0).toNat, by have := lastOf_pos l0; omega⟩
  have HMM := Aside0.mk hm
  have HLAST := Aside0.mk (show spec_l05Last.f l0 = some (m : Int) by rw [hm]; rfl)
  have HLEN := Aside0.mk (show l0.length ≤ 9223372036854775807 from hr0.2.1)
  have Z42 : ∀ w, (zeroValue 42).run Try.prog w = .ok (.agg (nums .i64 (List.replicate 24 0)).toArray) w := fun _ => by kernel_rfl
  obtain ⟨zz, hzz⟩ : ∃ z, z = List.replicate 24 (0 : Int) := ⟨_, rfl⟩
  have ZZ := Aside0.mk hzz
  have NZ := Aside0.mk (show zz.length = 24 by rw [hzz]; simp)
  have HB := Aside0.mk (Below.refl w.heap.size w)
  clear hr0 hc0 h hm hzz
  go_enter Try.func28, Try.ntmps28
  go_wp2
  (try simp only [Act.put, List.setIfInBounds_toArray, List.set_cons_succ, List.set_cons_zero])
  go_loopw [5, 8] (fun v5 v8 wr => ∃ (j : Nat) (u5 : Value), u5 = v5 ∧ v8 = .int .i64 (j : Int) ∧ Aside0 (j ≤ l0.length) ∧ Aside0 (∀ i, i < j → inodeGood (l0.getD i []) = true) ∧ Aside0 (Below w.heap.size w wr)) (fun _ v8 _ => l0.length - (intOf v8).toNat)
  case atStart => exact ⟨0, _, rfl, rfl, ⟨Nat.zero_le _⟩, ⟨fun i hi => absurd hi (by omega)⟩, HB⟩
  case round =>
    clear HB
    obtain ⟨j, v5, rfl, rfl, hj, HG, HB⟩ := hrel
    by_cases c9 : j < l0.length
    · have c9b0 : decide ((j : Int) < (l0.length : Int)) = true := decide_eq_true (by omega)
      have c9b1 : decide (j < l0.length) = true := decide_eq_true c9
      have q3 : ((j : Int) < (l0.length : Int)) = True := eq_true (by omega)
      have q4 : (0 ≤ (j : Int)) = True := eq_true (by omega)
      have q5 : (j < l0.length) = True := eq_true c9
      obtain ⟨ad, ea, hl, hc⟩ := wide_at (Kd.C_below HR0.out HB.out) j c9
      subst ea
      obtain ⟨x, hx⟩ : ∃ x, x = l0.getD j [] := ⟨_, rfl⟩
      rw [← hx] at hl hc
      have HX := Aside0.mk hx
      have HL := Aside0.mk hl
      have HC := Aside0.mk hc
      have C9 := Aside0.mk c9
      obtain ⟨sj, Szj⟩ : ∃ s, Aside0 (wr.heap.size = s) := ⟨_, ⟨rfl⟩⟩
      have hle_ : w.heap.size ≤ sj := by rw [← Szj.out]; exact HB.out.size
      clear hx hl hc c9
      obtain ⟨b, hb⟩ : ∃ b, b = inodeGood x := ⟨_, rfl⟩
      have HG1 := Aside0.mk (show spec_l02Inode.f x = some b by rw [hb]; rfl)
      have HGB := Aside0.mk hb
      clear hb
      cases b with
      | false =>
        go_wp2_with (first | ((with_reducible refine gate_dst (N := 11) rfl ?_); refine hx_load_at rfl 42 (.tmp 10) rfl (ad.add (j * 24)) rfl x 24 Try.underlying42 rfl (by kernel_rfl) HL.out (fun i hi => by rw [Addr.add_add]; exact HC.out i hi) ?_) | ((with_reducible refine gate_dst (N := 5) rfl ?_); refine hx_alloc rfl 5 rfl 42 rfl Szj (.agg (nums .i64 (List.replicate 24 0)).toArray) (nums .i64 (List.replicate 24 0)).toArray Z42 rfl ?_; intro w2 s2 Ls2 Ss2 b_ g_; have HA := Aside0.mk g_; have HB2 := Aside0.mk (below_then HB.out HB.out.size b_); clear b_ g_ HB) | ((with_reducible refine gate_store (t := 42) (p := 5) (v := .tmp 11) rfl ?_); refine hx_store rfl rfl 42 (.tmp 5) (.tmp 11) rfl sj 24 rfl (nums .i64 x).toArray rfl (by kernel_rfl) (nums_size _ _ _ HL.out) (nums_one _ _) HA.out (by simp [nums]) ?_; intro w3 t_ gg_; have HA3 := Aside0.mk gg_; have HB3 := Aside0.mk (t_.below HB2.out (by omega)); clear t_ gg_ HA HB2) | ((with_reducible refine gate_dst (N := 12) rfl ?_); refine hx_load rfl 42 (.tmp 5) rfl sj 24 rfl Try.underlying42 rfl (by kernel_rfl) HA3.out (nums_size _ _ _ HL.out) ?_) | ((with_reducible refine gate_dst (N := 13) rfl ?_); refine goesL_ (some 13) rfl rfl Try.func50 (by kernel_rfl) rfl #[.agg (nums .i64 x).toArray] rfl (by (try simp only [List.map_toArray, List.map_cons, List.map_nil]); first | done | rfl) ?_; refine (spec_l02Inode.calls x HL.out _ _ HG1.out).mono ?_; rintro e_ w4 ⟨rfl, b_⟩; refine ⟨_, rfl, ?_⟩; have HB4 := Aside0.mk (below_then HB3.out HB3.out.size b_); clear b_ HB3 HA3))
        go_ret2
        have e_ : tableGood l0 = false := by unfold tableGood; rw [allGood_not C9.out (by rw [← HX.out]; exact HGB.out.symm)]; rfl
        have h_ := HH.out
        rw [e_] at h_
        simp only [Bool.false_eq_true, if_false, Option.some.injEq, Prod.mk.injEq] at h_
        obtain ⟨rfl, rfl⟩ := h_
        exact ⟨_, rfl, Kd.R_nil _ _ _ _ _, HB4.out⟩
      | true =>
        go_wp2_with (first | ((with_reducible refine gate_dst (N := 11) rfl ?_); refine hx_load_at rfl 42 (.tmp 10) rfl (ad.add (j * 24)) rfl x 24 Try.underlying42 rfl (by kernel_rfl) HL.out (fun i hi => by rw [Addr.add_add]; exact HC.out i hi) ?_) | ((with_reducible refine gate_dst (N := 5) rfl ?_); refine hx_alloc rfl 5 rfl 42 rfl Szj (.agg (nums .i64 (List.replicate 24 0)).toArray) (nums .i64 (List.replicate 24 0)).toArray Z42 rfl ?_; intro w2 s2 Ls2 Ss2 b_ g_; have HA := Aside0.mk g_; have HB2 := Aside0.mk (below_then HB.out HB.out.size b_); clear b_ g_ HB) | ((with_reducible refine gate_store (t := 42) (p := 5) (v := .tmp 11) rfl ?_); refine hx_store rfl rfl 42 (.tmp 5) (.tmp 11) rfl sj 24 rfl (nums .i64 x).toArray rfl (by kernel_rfl) (nums_size _ _ _ HL.out) (nums_one _ _) HA.out (by simp [nums]) ?_; intro w3 t_ gg_; have HA3 := Aside0.mk gg_; have HB3 := Aside0.mk (t_.below HB2.out (by omega)); clear t_ gg_ HA HB2) | ((with_reducible refine gate_dst (N := 12) rfl ?_); refine hx_load rfl 42 (.tmp 5) rfl sj 24 rfl Try.underlying42 rfl (by kernel_rfl) HA3.out (nums_size _ _ _ HL.out) ?_) | ((with_reducible refine gate_dst (N := 13) rfl ?_); refine goesL_ (some 13) rfl rfl Try.func50 (by kernel_rfl) rfl #[.agg (nums .i64 x).toArray] rfl (by (try simp only [List.map_toArray, List.map_cons, List.map_nil]); first | done | rfl) ?_; refine (spec_l02Inode.calls x HL.out _ _ HG1.out).mono ?_; rintro e_ w4 ⟨rfl, b_⟩; refine ⟨_, rfl, ?_⟩; have HB4 := Aside0.mk (below_then HB3.out HB3.out.size b_); clear b_ HB3 HA3))
        go_roundw
        case rel => exact ⟨j + 1, _, rfl, by rw [show wrap64 ((j : Int) + 1) = ((j + 1 : Nat) : Int) by (have := HLEN.out; have := C9.out; unfold wrap64; omega)], ⟨by have := C9.out; omega⟩, ⟨fun i hi => by
          by_cases hij : i = j
          · rw [hij, ← HX.out]; exact HGB.out.symm
          · exact HG.out i (by omega)⟩, HB4⟩
        case measure =>
          rw [show wrap64 ((j : Int) + 1) = ((j + 1 : Nat) : Int) by (have := HLEN.out; have := C9.out; unfold wrap64; omega)]
          simp only [intOf, Int.toNat_natCast]
          have := C9.out
          omega
    · obtain rfl : j = l0.length := by have := hj.out; omega
      have c9b0 : decide ((l0.length : Int) < (l0.length : Int)) = false := decide_eq_false (by omega)
      have c9b1 : decide (l0.length < l0.length) = false := decide_eq_false c9
      clear c9
      have HAG := Aside0.mk (allGood_of HG.out)
      by_cases c17 : 0 < l0.length
      · have c17b0 : decide ((0 : Int) < (l0.length : Int)) = true := decide_eq_true (by omega)
        have c17b1 : decide (0 < l0.length) = true := decide_eq_true c17
        have q3 : ((0 : Int) < (l0.length : Int)) = True := eq_true (by omega)
        have q5 : (0 < l0.length) = True := eq_true c17
        obtain ⟨ad, ea, hl, hc⟩ := wide_at (Kd.C_below HR0.out HB.out) 0 c17
        subst ea
        obtain ⟨x, hx⟩ : ∃ x, x = l0.getD 0 [] := ⟨_, rfl⟩
        rw [← hx] at hl hc
        have HX := Aside0.mk hx
        have HL := Aside0.mk hl
        have HC := Aside0.mk hc
        clear hx hl hc c17
        by_cases c24 : x = zz
        · have BE := Aside0.mk (show (!decide (x = zz)) = false by rw [decide_eq_true c24]; rfl)
          have HFZ := Aside0.mk (show firstZero l0 = true by unfold firstZero; rw [← HX.out, decide_eq_true (show x = zInode by rw [c24, ZZ.out]; rfl)]; simp)
          clear c24
          by_cases c29 : m ≤ 1000
          · have c29b0 : decide ((1000 : Int) < (m : Int)) = false := decide_eq_false (by omega)
            have c29b1 : decide (1000 < m) = false := decide_eq_false (by omega)
            have HTG := Aside0.mk (show tableGood l0 = true by unfold tableGood; rw [HAG.out, HFZ.out, decide_eq_true (show lastOf l0 ≤ 1000 by rw [← HMM.out]; omega)]; rfl)
            have HTB := Aside0.mk (show spec_l05Bytes.f l0 = some (tableBytes l0) from if_pos ⟨HAG.out, by rw [← HMM.out]; omega⟩)
            clear c29
            go_wp2_with (first | ((with_reducible refine gate_dst (N := 22) rfl ?_); refine ungd (by rfl) ?_; refine hx_load_at rfl 42 (.tmp 21) rfl (ad.add (0 * 24)) (by first | rfl | (go_simp; done) | simp) x 24 Try.underlying42 rfl (by kernel_rfl) HL.out (fun i hi => by rw [Addr.add_add]; exact HC.out i hi) ?_) | ((with_reducible refine gate_dst (N := 24) rfl ?_); refine ungd (by rfl) ?_; refine wpList_neqw rfl (.tmp 22) (.tmp 23) _ rfl eqw42 (by decide) (by kernel_rfl) x zz rfl (by rw [ZZ.out]; rfl) HL.out NZ.out ?_; rw [BE.out]) | (go_at_call 57; (with_reducible refine (spec_l05Last.calls (some ad) c0 l0 (m : Int) _ (Kd.C_below HR0.out HB.out) HC0.out HLAST.out).mono ?_); rintro e_ w2 ⟨rfl, b_⟩; have HB2 := Aside0.mk (below_then HB.out HB.out.size b_); clear b_ HB) | ((with_reducible refine gate_dst (N := 32) rfl ?_); refine goesL_ (some 32) rfl rfl Try.func58 (by kernel_rfl) rfl #[.slice (some ad) l0.length c0] rfl (by (try simp only [List.map_toArray, List.map_cons, List.map_nil]); first | done | rfl) ?_; refine (spec_l05Bytes.calls (some ad) c0 l0 _ _ (Kd.C_below HR0.out HB2.out) HC0.out HTB.out).mono ?_; rintro e_ w3 ⟨v32, rfl, R_, b_⟩; refine ⟨_, rfl, ?_⟩; have O32 := Aside0.mk (Kd.R_lower R_ HB2.out.size); have HB3 := Aside0.mk (below_then HB2.out HB2.out.size b_); clear R_ b_ HB2))
            go_ret2
            have h_ := HH.out
            rw [HTG.out] at h_
            simp only [if_true, Option.some.injEq, Prod.mk.injEq] at h_
            obtain ⟨rfl, rfl⟩ := h_
            exact ⟨_, rfl, O32.out, HB3.out⟩
          · have c29b0 : decide ((1000 : Int) < (m : Int)) = true := decide_eq_true (by omega)
            have c29b1 : decide (1000 < m) = true := decide_eq_true (by omega)
            have HTG := Aside0.mk (show tableGood l0 = false by unfold tableGood; rw [decide_eq_false (show ¬ lastOf l0 ≤ 1000 by rw [← HMM.out]; omega)]; simp)
            clear c29
            go_wp2_with (first | ((with_reducible refine gate_dst (N := 22) rfl ?_); refine ungd (by rfl) ?_; refine hx_load_at rfl 42 (.tmp 21) rfl (ad.add (0 * 24)) (by first | rfl | (go_simp; done) | simp) x 24 Try.underlying42 rfl (by kernel_rfl) HL.out (fun i hi => by rw [Addr.add_add]; exact HC.out i hi) ?_) | ((with_reducible refine gate_dst (N := 24) rfl ?_); refine ungd (by rfl) ?_; refine wpList_neqw rfl (.tmp 22) (.tmp 23) _ rfl eqw42 (by decide) (by kernel_rfl) x zz rfl (by rw [ZZ.out]; rfl) HL.out NZ.out ?_; rw [BE.out]) | (go_at_call 57; (with_reducible refine (spec_l05Last.calls (some ad) c0 l0 (m : Int) _ (Kd.C_below HR0.out HB.out) HC0.out HLAST.out).mono ?_); rintro e_ w2 ⟨rfl, b_⟩; have HB2 := Aside0.mk (below_then HB.out HB.out.size b_); clear b_ HB))
            go_ret2
            have h_ := HH.out
            rw [HTG.out] at h_
            simp only [Bool.false_eq_true, if_false, Option.some.injEq, Prod.mk.injEq] at h_
            obtain ⟨rfl, rfl⟩ := h_
            exact ⟨_, rfl, Kd.R_nil _ _ _ _ _, HB2.out⟩
        · have BE := Aside0.mk (show (!decide (x = zz)) = true by rw [decide_eq_false c24]; rfl)
          have HFZ := Aside0.mk (show firstZero l0 = false by unfold firstZero; rw [← HX.out, decide_eq_false (show ¬ x = zInode by intro h_; exact c24 (by rw [h_, ZZ.out]; rfl)), decide_eq_false (show ¬ l0.length = 0 by have := of_eq_true q5; omega)]; rfl)
          clear c24
          go_wp2_with (first | ((with_reducible refine gate_dst (N := 22) rfl ?_); refine ungd (by rfl) ?_; refine hx_load_at rfl 42 (.tmp 21) rfl (ad.add (0 * 24)) (by first | rfl | (go_simp; done) | simp) x 24 Try.underlying42 rfl (by kernel_rfl) HL.out (fun i hi => by rw [Addr.add_add]; exact HC.out i hi) ?_) | ((with_reducible refine gate_dst (N := 24) rfl ?_); refine ungd (by rfl) ?_; refine wpList_neqw rfl (.tmp 22) (.tmp 23) _ rfl eqw42 (by decide) (by kernel_rfl) x zz rfl (by rw [ZZ.out]; rfl) HL.out NZ.out ?_; rw [BE.out]))
          go_ret2
          have e_ : tableGood l0 = false := by unfold tableGood; rw [HFZ.out]; simp
          have h_ := HH.out
          rw [e_] at h_
          simp only [Bool.false_eq_true, if_false, Option.some.injEq, Prod.mk.injEq] at h_
          obtain ⟨rfl, rfl⟩ := h_
          exact ⟨_, rfl, Kd.R_nil _ _ _ _ _, HB.out⟩
      · have c17b0 : decide ((0 : Int) < (l0.length : Int)) = false := decide_eq_false (by omega)
        have c17b1 : decide (0 < l0.length) = false := decide_eq_false c17
        have HFZ := Aside0.mk (show firstZero l0 = true by unfold firstZero; rw [decide_eq_true (show l0.length = 0 by omega)]; rfl)
        clear c17
        by_cases c29 : m ≤ 1000
        · have c29b0 : decide ((1000 : Int) < (m : Int)) = false := decide_eq_false (by omega)
          have c29b1 : decide (1000 < m) = false := decide_eq_false (by omega)
          have HTG := Aside0.mk (show tableGood l0 = true by unfold tableGood; rw [HAG.out, HFZ.out, decide_eq_true (show lastOf l0 ≤ 1000 by rw [← HMM.out]; omega)]; rfl)
          have HTB := Aside0.mk (show spec_l05Bytes.f l0 = some (tableBytes l0) from if_pos ⟨HAG.out, by rw [← HMM.out]; omega⟩)
          clear c29
          go_wp2_with (first | fail | (go_at_call 57; (with_reducible refine (spec_l05Last.calls A0 c0 l0 (m : Int) _ (Kd.C_below HR0.out HB.out) HC0.out HLAST.out).mono ?_); rintro e_ w2 ⟨rfl, b_⟩; have HB2 := Aside0.mk (below_then HB.out HB.out.size b_); clear b_ HB) | ((with_reducible refine gate_dst (N := 32) rfl ?_); refine goesL_ (some 32) rfl rfl Try.func58 (by kernel_rfl) rfl #[.slice A0 l0.length c0] rfl (by (try simp only [List.map_toArray, List.map_cons, List.map_nil]); first | done | rfl) ?_; refine (spec_l05Bytes.calls A0 c0 l0 _ _ (Kd.C_below HR0.out HB2.out) HC0.out HTB.out).mono ?_; rintro e_ w3 ⟨v32, rfl, R_, b_⟩; refine ⟨_, rfl, ?_⟩; have O32 := Aside0.mk (Kd.R_lower R_ HB2.out.size); have HB3 := Aside0.mk (below_then HB2.out HB2.out.size b_); clear R_ b_ HB2))
          go_ret2
          have h_ := HH.out
          rw [HTG.out] at h_
          simp only [if_true, Option.some.injEq, Prod.mk.injEq] at h_
          obtain ⟨rfl, rfl⟩ := h_
          exact ⟨_, rfl, O32.out, HB3.out⟩
        · have c29b0 : decide ((1000 : Int) < (m : Int)) = true := decide_eq_true (by omega)
          have c29b1 : decide (1000 < m) = true := decide_eq_true (by omega)
          have HTG := Aside0.mk (show tableGood l0 = false by unfold tableGood; rw [decide_eq_false (show ¬ lastOf l0 ≤ 1000 by rw [← HMM.out]; omega)]; simp)
          clear c29
          go_wp2_with (first | fail | (go_at_call 57; (with_reducible refine (spec_l05Last.calls A0 c0 l0 (m : Int) _ (Kd.C_below HR0.out HB.out) HC0.out HLAST.out).mono ?_); rintro e_ w2 ⟨rfl, b_⟩; have HB2 := Aside0.mk (below_then HB.out HB.out.size b_); clear b_ HB))
          go_ret2
          have h_ := HH.out
          rw [HTG.out] at h_
          simp only [Bool.false_eq_true, if_false, Option.some.injEq, Prod.mk.injEq] at h_
          obtain ⟨rfl, rfl⟩ := h_
          exact ⟨_, rfl, Kd.R_nil _ _ _ _ _, HB2.out⟩

/-! ### spec_l02TableSize: function 59 -/
def spec_l02TableSize.f (a0 : Int) : Option (Bool) := if a0 ≥ 256 then (if (Int.tmod a0 128) = 0 then (some (decide (a0 ≤ 128128))) else (some false)) else (some false)
set_option maxHeartbeats 8000000 in
set_option maxRecDepth 100000 in
theorem spec_l02TableSize.calls (a0 : Int) (r : Bool) (w : World) (h : spec_l02TableSize.f a0 = some r) :
    Calls Try.prog 59 #[.int .i64 a0] w fun e w' => e = .returned (.bool r) ∧ Drawn0 w w' := by
  have H : (if a0 ≥ 256 then (if (Int.tmod a0 128) = 0 then (some (decide (a0 ≤ 128128))) else (some false)) else (some false)) = some r := h
  clear h
  by_cases c2 : a0 ≥ 256
  · rw [if_pos c2] at H
    have c2b0 : decide (256 ≤ a0) = true := decide_eq_true c2
    clear c2
    by_cases c3 : (Int.tmod a0 128) = 0
    · rw [if_pos c3] at H
      have c3b0 : ((Int.tmod a0 128) == 0) = true := beq_iff_eq.mpr c3
      have c3b1 : ((Int.tmod a0 128) != 0) = false := bne_eq_false_iff_eq.mpr c3
      clear c3
      obtain rfl := Option.some.inj H
      go_enter Try.func59, Try.ntmps59
      go_wp2
      go_ret
      exact ⟨by first | rfl | (simp; done) | (simp [*]; done), by repeat (first | exact Drawn0.refl _ | apply Drawn0.step)⟩
    · rw [if_neg c3] at H
      have c3b0 : ((Int.tmod a0 128) == 0) = false := beq_eq_false_iff_ne.mpr c3
      have c3b1 : ((Int.tmod a0 128) != 0) = true := bne_iff_ne.mpr c3
      obtain rfl := Option.some.inj H
      go_enter Try.func59, Try.ntmps59
      go_wp2
      go_ret
      exact ⟨by first | rfl | (simp; done) | (simp [*]; done), by repeat (first | exact Drawn0.refl _ | apply Drawn0.step)⟩
  · rw [if_neg c2] at H
    have c2b0 : decide (256 ≤ a0) = false := decide_eq_false c2
    clear c2
    obtain rfl := Option.some.inj H
    go_enter Try.func59, Try.ntmps59
    go_wp2
    go_ret
    exact ⟨by first | rfl | (simp; done) | (simp [*]; done), by repeat (first | exact Drawn0.refl _ | apply Drawn0.step)⟩

open Go.Proofs.YtkghgjehjchajaaW Go.Proofs.YtkghgjehjchajaaW.PrintHand Go.Proofs.YtkghgjehjchajaaW.PrintHx
/-! ### spec_DecodeTable: function 33 -/
open Go.Proofs.YtkghgjehjchajaaW.PrintLe Go.Proofs.YtkghgjehjchajaaW.PrintIno Go.Proofs.YtkghgjehjchajaaW.PrintDec Go.Proofs.YtkghgjehjchajaaW.PrintTabl Go.Proofs.YtkghgjehjchajaaW.PrintTab2 Go.Proofs.YtkghgjehjchajaaW.PrintTab3 Go.Proofs.YtkghgjehjchajaaW.PrintRaw
theorem own_none {n e B g : Nat} {w : World} (hg : w.heap[g]? = some (.cells #[] e (0, 0))) (hB : B ≤ g) : (PrintHx.wide n).R e w B (fun _ => True) (.slice (some ⟨g, 0, none⟩) 0 0) [] :=
  ⟨fun _ _ => trivial, [], ⟨by simp, .inr ⟨g, 0, #[], rfl, hB, hg, Nat.le_refl _, by simp [maxLen], by simp, by simp⟩⟩, ⟨by simp, fun j p hj => by simp at hj⟩⟩

theorem spec_DecodeTable.size (n : Nat) : spec_l02TableSize.f (n : Int) = some (sizeOk n) := by
  unfold spec_l02TableSize.f
  rw [Int.tmod_eq_emod_of_nonneg (by omega)]
  unfold sizeOk
  by_cases h1 : 256 ≤ n
  · rw [if_pos (by omega), decide_eq_true h1]
    by_cases h2 : n % 128 = 0
    · rw [if_pos (by omega), decide_eq_true h2, Bool.true_and, Bool.true_and, decide_eq_decide.2 (show (n : Int) ≤ 128128 ↔ n ≤ 128128 by omega)]
    · rw [if_neg (by omega), decide_eq_false h2]
      rfl
  · rw [if_neg (by omega), decide_eq_false h1]
    rfl
theorem spec_DecodeTable.lit1 : ∀ z : List Int, z.length = 24 → ∀ w : World, (Instr.buildSlice 51 1 #[(0, .agg (nums .i64 z).toArray)]).run Try.prog w = .ok (.slice (some ⟨w.heap.size, 0, none⟩) 1 1) (w.alloc (.cells (nums .i64 z).toArray 42)) := by
  intro z h w_
  obtain ⟨x0, b0, rfl, h0⟩ := cons_of_len h
  obtain ⟨x1, b1, rfl, h1⟩ := cons_of_len h0
  obtain ⟨x2, b2, rfl, h2⟩ := cons_of_len h1
  obtain ⟨x3, b3, rfl, h3⟩ := cons_of_len h2
  obtain ⟨x4, b4, rfl, h4⟩ := cons_of_len h3
  obtain ⟨x5, b5, rfl, h5⟩ := cons_of_len h4
  obtain ⟨x6, b6, rfl, h6⟩ := cons_of_len h5
  obtain ⟨x7, b7, rfl, h7⟩ := cons_of_len h6
  obtain ⟨x8, b8, rfl, h8⟩ := cons_of_len h7
  obtain ⟨x9, b9, rfl, h9⟩ := cons_of_len h8
  obtain ⟨x10, b10, rfl, h10⟩ := cons_of_len h9
  obtain ⟨x11, b11, rfl, h11⟩ := cons_of_len h10
  obtain ⟨x12, b12, rfl, h12⟩ := cons_of_len h11
  obtain ⟨x13, b13, rfl, h13⟩ := cons_of_len h12
  obtain ⟨x14, b14, rfl, h14⟩ := cons_of_len h13
  obtain ⟨x15, b15, rfl, h15⟩ := cons_of_len h14
  obtain ⟨x16, b16, rfl, h16⟩ := cons_of_len h15
  obtain ⟨x17, b17, rfl, h17⟩ := cons_of_len h16
  obtain ⟨x18, b18, rfl, h18⟩ := cons_of_len h17
  obtain ⟨x19, b19, rfl, h19⟩ := cons_of_len h18
  obtain ⟨x20, b20, rfl, h20⟩ := cons_of_len h19
  obtain ⟨x21, b21, rfl, h21⟩ := cons_of_len h20
  obtain ⟨x22, b22, rfl, h22⟩ := cons_of_len h21
  obtain ⟨x23, b23, rfl, h23⟩ := cons_of_len h22
  obtain rfl := List.length_eq_zero_iff.mp h23
  kernel_rfl
def spec_DecodeTable.f (l0 : List Int) : Option (List (List Int) × Int) := if (∀ x ∈ l0, 0 ≤ x ∧ x ≤ 255) then some (decTable l0) else none
theorem spec_DecodeTable.bad {l0 : List Int} (h : sizeOk l0.length = false ∨ chunksOk l0 (l0.length / 128) = false ∨ tabEnd (rowsTo l0 (l0.length / 128)) = false) : decTable l0 = ([], 21) := by
  unfold decTable
  rcases h with h | h | h <;> rw [h] <;> simp
set_option maxHeartbeats 8000000 in
set_option maxRecDepth 100000 in
theorem spec_DecodeTable.calls (A0 : Option Addr) (c0 : Nat) (l0 : List Int) (r1 : List (List Int)) (r2 : Int) (w : World) (hr0 : Kd.C (Kd.int .u8) w A0 l0.length l0) (hc0 : l0.length ≤ c0) (h : spec_DecodeTable.f l0 = some (r1, r2)) :
    Calls Try.prog 33 #[.slice A0 l0.length c0] w fun e w' => ∃ v0_ : Value, e = .returned (.tuple #[v0_, .int .i64 r2]) ∧ Kd.R (PrintHx.wide 24) 42 w' w.heap.size (fun _ => True) v0_ r1 ∧ Below w.heap.size w w' := by
  unfold spec_DecodeTable.f at h
  by_cases hdom : (∀ x ∈ l0, 0 ≤ x ∧ x ≤ 255)
  case neg => rw [if_neg hdom] at h; cases h
  rw [if_pos hdom] at h
  have HH := Aside0.mk (Option.some.inj h)
  have HBY : Aside0 (Byt l0) := ⟨hdom⟩
  have HR0 := Aside0.mk hr0
  have HC0 := Aside0.mk hc0
  have HB := Aside0.mk (Below.refl w.heap.size w)
  obtain ⟨b, hb⟩ : ∃ b, b = sizeOk l0.length := ⟨_, rfl⟩
  have HS := Aside0.mk (show spec_l02TableSize.f (l0.length : Int) = some b by rw [hb]; exact spec_DecodeTable.size l0.length)
  have HSB := Aside0.mk hb
  clear hr0 hc0 h hdom hb
  cases b with
  | false =>
    go_enter Try.func33, Try.ntmps33
    go_wp2_with (first | ((with_reducible refine gate_dst (N := 12) rfl ?_); refine goesL_ (some 12) rfl rfl Try.func59 (by kernel_rfl) rfl #[.int .i64 (l0.length : Int)] rfl (by (try simp only [List.map_toArray, List.map_cons, List.map_nil]); first | done | rfl) ?_; refine (spec_l02TableSize.calls _ _ _ HS.out).mono ?_; rintro e_ wz ⟨rfl, d_⟩; refine ⟨_, rfl, ?_⟩; have HBz := Aside0.mk (below_then HB.out HB.out.size (kept_drawn d_)); clear d_ HB))
    go_ret2
    have h_ := HH.out
    rw [spec_DecodeTable.bad (.inl HSB.out.symm)] at h_
    simp only [Prod.mk.injEq] at h_
    obtain ⟨rfl, rfl⟩ := h_
    exact ⟨_, rfl, Kd.R_nil _ _ _ _ _, HBz.out⟩
  | true =>
    have hz := HSB.out.symm
    unfold sizeOk at hz
    simp only [Bool.and_eq_true, decide_eq_true_eq] at hz
    obtain ⟨n, hn⟩ : ∃ n, n = l0.length / 128 := ⟨_, rfl⟩
    have HN := Aside0.mk (show l0.length = 128 * n by omega)
    have HN1 := Aside0.mk (show 2 ≤ n ∧ n ≤ 1001 by omega)
    have HNE := Aside0.mk hn
    clear hz hn
    have hi_ : (Try.prog.info? 42).map (fun i => (i.zero, i.size, i.bytes)) = some (some (.agg (nums .i64 (List.replicate 24 0)).toArray), 24, 192) := by kernel_rfl
    have Z42 : ∀ w, (zeroValue 42).run Try.prog w = .ok (.agg (nums .i64 (List.replicate 24 0)).toArray) w := fun _ => by kernel_rfl
    go_enter Try.func33, Try.ntmps33
    go_wp2_with (first | ((with_reducible refine gate_dst (N := 12) rfl ?_); refine goesL_ (some 12) rfl rfl Try.func59 (by kernel_rfl) rfl #[.int .i64 (l0.length : Int)] rfl (by (try simp only [List.map_toArray, List.map_cons, List.map_nil]); first | done | rfl) ?_; refine (spec_l02TableSize.calls _ _ _ HS.out).mono ?_; rintro e_ wz ⟨rfl, d_⟩; refine ⟨_, rfl, ?_⟩; have HBz := Aside0.mk (below_then HB.out HB.out.size (kept_drawn d_)); clear d_ HB))
    (try simp only [Act.put, List.setIfInBounds_toArray, List.set_cons_succ, List.set_cons_zero])
    go_loopw [4, 5, 6, 7] (fun v4 v5 v6 v7 wr => ∃ (j k : Nat) (u4 u6 u7 : Value), u4 = v4 ∧ u6 = v6 ∧ u7 = v7 ∧ v5 = .int .i64 (k : Int) ∧ Aside0 (k = 128 * j) ∧ Aside0 (j ≤ n) ∧ Aside0 (∀ i, i < j → (decAt l0 i).2 = 0) ∧ Aside0 (Kd.R (PrintHx.wide 24) 42 wr w.heap.size (fun _ => True) v4 (rowsTo l0 j)) ∧ Aside0 (Below w.heap.size w wr)) (fun _ v5 _ _ _ => l0.length - (intOf v5).toNat)
    case atStart => exact ⟨0, 0, _, _, _, rfl, rfl, rfl, rfl, ⟨rfl⟩, ⟨Nat.zero_le _⟩, ⟨fun i hi => absurd hi (by omega)⟩, ⟨own_none (blk_new wz _) HBz.out.size⟩, ⟨below_then HBz.out HBz.out.size (below_alloc (Below.refl _ _) _)⟩⟩
    case round =>
      clear HBz
      obtain ⟨j, k, v4, v6, v7, rfl, rfl, rfl, rfl, HK, hj, HG, OO, HB⟩ := hrel
      by_cases c9 : k < l0.length
      · have c9b0 : decide ((k : Int) < (l0.length : Int)) = true := decide_eq_true (by omega)
        have c9b1 : decide (k < l0.length) = true := decide_eq_true c9
        have HJ := Aside0.mk (show j < n by have := HK.out; have := HN.out; omega)
        obtain ⟨rs, hrs⟩ : ∃ rs, rs = rowsTo l0 j := ⟨_, rfl⟩
        rw [← hrs] at OO
        have HRS := Aside0.mk hrs
        have HRL := Aside0.mk (show rs.length = j by rw [hrs]; exact rowsTo_length l0 j)
        have C9 := Aside0.mk c9
        obtain ⟨x, hx⟩ : ∃ x, x = (decAt l0 j).1 := ⟨_, rfl⟩
        have HX := Aside0.mk hx
        have HXL := Aside0.mk (show x.length = 24 by rw [hx]; exact decAt_length l0 j)
        clear hx hrs c9
        by_cases hcd : (decAt l0 j).2 = 0
        · have HD := Aside0.mk (show ∀ c, c = chunk l0 j → spec_DecodeInode.f c = some (x, 0) by
            intro c hc
            unfold spec_DecodeInode.f
            rw [if_pos (show ∀ y ∈ c, 0 ≤ y ∧ y ≤ 255 by rw [hc]; exact seg_byt HBY.out _ _), hc, show (x, (0 : Int)) = decAt l0 j from Prod.ext HX.out hcd.symm]
            rfl)
          have HCD := Aside0.mk hcd
          clear hcd
          go_wp2_with (first | ((with_reducible refine gate_dst (N := 25) rfl ?_); refine hx_addn rfl 3 (.tmp 24) _ rfl k 128 rfl rfl (by have := HK.out; have := HJ.out; have := HN1.out; omega) ?_; intro k2 E2) | ((with_reducible refine gate_dst (N := 26) rfl ?_); refine hx_mid rfl 25 5 (.tmp 22) (.tmp 23) (.tmp 25) rfl A0 c0 l0 k k2 rfl rfl rfl Try.underlying25 (by kernel_rfl) (by have := E2.out; omega) (by have := E2.out; have := HK.out; have := HJ.out; have := HN.out; omega) HC0.out (Kd.C_below HR0.out HB.out) ?_; intro A26 c26 l26 E26 C26 K26) | ((with_reducible refine gate_dst (N := 27) rfl ?_); refine goesL_ (some 27) rfl rfl Try.func24 (by kernel_rfl) rfl #[.slice A26 l26.length c26] rfl (by (try simp only [List.map_toArray, List.map_cons, List.map_nil]); first | done | rfl) ?_; refine (spec_DecodeInode.calls A26 c26 l26 _ _ _ C26.out K26.out (HD.out l26 (by rw [E26.out, show k2 - k = 128 by (have := E2.out; omega), HK.out]; rfl))).mono ?_; rintro e_ w1 ⟨rfl, b_⟩; refine ⟨_, rfl, ?_⟩; have HB1 := Aside0.mk (below_then HB.out HB.out.size b_); obtain ⟨s1, Sz1⟩ : ∃ s, Aside0 (w1.heap.size = s) := ⟨_, ⟨rfl⟩⟩; have hs1 : w.heap.size ≤ s1 := (by rw [← Sz1.out]; exact HB1.out.size); have OO1 := Aside0.mk (Kd.R_mono (ok' := fun k => k < s1) (Kd.R_bound (Kd.R_below OO.out b_)) (fun k hk => by have h_ := hk.2.2.1; rw [Sz1.out] at h_; exact h_)); clear b_ HB OO C26 K26) | ((with_reducible refine gate_dst (N := 6) rfl ?_); refine hx_alloc rfl 6 rfl 42 rfl Sz1 (.agg (nums .i64 (List.replicate 24 0)).toArray) (nums .i64 (List.replicate 24 0)).toArray Z42 rfl ?_; intro w2 s2 L2 Sz2 b_ g_; have HA := Aside0.mk g_; have HB2 := Aside0.mk (below_then HB1.out HB1.out.size b_); have OO2 := Aside0.mk (Kd.R_below OO1.out b_); clear b_ g_ HB1 OO1) | ((with_reducible refine gate_store (t := 42) (p := 6) (v := .tmp 28) rfl ?_); refine hx_store rfl rfl 42 (.tmp 6) (.tmp 28) rfl s1 24 rfl (nums .i64 x).toArray rfl (by kernel_rfl) (nums_size _ _ _ HXL.out) (nums_one _ _) HA.out (by simp [nums]) ?_; intro w3 t_ gg_; have HA3 := Aside0.mk gg_; have HB3 := Aside0.mk (t_.below HB2.out (by omega)); have OO3 := Aside0.mk (Kd.R_kept OO2.out (kept_touch t_) (fun k hk h_ => by have h1_ : k = s1 := h_; have h2_ : k < s1 := hk; omega)); obtain ⟨s3, Sz3⟩ : ∃ s, Aside0 (w3.heap.size = s) := ⟨_, ⟨rfl⟩⟩; clear t_ gg_ HA HB2 OO2) | ((with_reducible refine gate_dst (N := 33) rfl ?_); refine hx_load rfl 42 (.tmp 6) rfl s1 24 rfl Try.underlying42 rfl (by kernel_rfl) HA3.out (nums_size _ _ _ HXL.out) ?_) | ((with_reducible refine gate_dst (N := 34) rfl ?_); refine hx_lit1 rfl 51 42 24 (.tmp 33) rfl x rfl HXL.out Sz3 (spec_DecodeTable.lit1 x HXL.out) ?_; intro w5 b_ C5; have HB5 := Aside0.mk (below_then HB3.out HB3.out.size b_); have OO5 := Aside0.mk (Kd.R_mono (ok' := fun _ => True) (Kd.R_below OO3.out b_) (fun _ _ => trivial)); clear b_ HB3 OO3 HA3) | ((with_reducible refine gate_dst (N := 35) rfl ?_); refine Kd.R_append_rows (PrintHx.wide 24) (w0 := w) w.heap.size rfl (.tmp 32) (.tmp 34) 51 42 (.agg (nums .i64 (List.replicate 24 0)).toArray) 192 rfl Try.underlying51 hi_ rfl (by decide) (by omega) v4 rs [x] _ _ _ (fun _ => True) (fun _ => False) rfl rfl OO5.out C5.out (fun _ _ h => h) (fun _ h => h.elim) (fun _ _ => trivial) HB5.out HB5.out.size (by have := HRL.out; have := HJ.out; have := HN1.out; omega) ?_; intro v35 w6 ho hb hg_ hn_; have OO6 := Aside0.mk ho; have HB6 := Aside0.mk hb; clear ho hb hg_ hn_ HB5 OO5 C5) | ((with_reducible refine gate_dst (N := 20) rfl ?_); refine hx_addn rfl 3 (.tmp 19) _ rfl k 128 rfl rfl (by have := HK.out; have := HJ.out; have := HN1.out; omega) ?_; intro k3 E3))
          go_roundw
          case rel => exact ⟨j + 1, k3, _, _, _, rfl, rfl, rfl, rfl, ⟨by have := E3.out; have := HK.out; omega⟩, ⟨by have := HJ.out; omega⟩, ⟨fun i hi => by
            by_cases hij : i = j
            · rw [hij]; exact HCD.out
            · exact HG.out i (by omega)⟩, ⟨by rw [rowsTo_succ, ← HRS.out, ← HX.out]; exact OO6.out⟩, HB6⟩
          case measure =>
            simp only [intOf, Int.toNat_natCast]
            have := E3.out
            have := C9.out
            omega
        · have HD := Aside0.mk (show ∀ c, c = chunk l0 j → spec_DecodeInode.f c = some (x, 21) by
            intro c hc
            unfold spec_DecodeInode.f
            rw [if_pos (show ∀ y ∈ c, 0 ≤ y ∧ y ≤ 255 by rw [hc]; exact seg_byt HBY.out _ _), hc, show (x, (21 : Int)) = decAt l0 j from Prod.ext HX.out (decAt_code l0 j hcd).symm]
            rfl)
          have h_ := HH.out
          rw [spec_DecodeTable.bad (.inr (.inl (by rw [← HNE.out]; exact chunksOk_not HJ.out hcd)))] at h_
          simp only [Prod.mk.injEq] at h_
          obtain ⟨rfl, rfl⟩ := h_
          clear hcd
          go_wp2_with (first | ((with_reducible refine gate_dst (N := 25) rfl ?_); refine hx_addn rfl 3 (.tmp 24) _ rfl k 128 rfl rfl (by have := HK.out; have := HJ.out; have := HN1.out; omega) ?_; intro k2 E2) | ((with_reducible refine gate_dst (N := 26) rfl ?_); refine hx_mid rfl 25 5 (.tmp 22) (.tmp 23) (.tmp 25) rfl A0 c0 l0 k k2 rfl rfl rfl Try.underlying25 (by kernel_rfl) (by have := E2.out; omega) (by have := E2.out; have := HK.out; have := HJ.out; have := HN.out; omega) HC0.out (Kd.C_below HR0.out HB.out) ?_; intro A26 c26 l26 E26 C26 K26) | ((with_reducible refine gate_dst (N := 27) rfl ?_); refine goesL_ (some 27) rfl rfl Try.func24 (by kernel_rfl) rfl #[.slice A26 l26.length c26] rfl (by (try simp only [List.map_toArray, List.map_cons, List.map_nil]); first | done | rfl) ?_; refine (spec_DecodeInode.calls A26 c26 l26 _ _ _ C26.out K26.out (HD.out l26 (by rw [E26.out, show k2 - k = 128 by (have := E2.out; omega), HK.out]; rfl))).mono ?_; rintro e_ w1 ⟨rfl, b_⟩; refine ⟨_, rfl, ?_⟩; have HB1 := Aside0.mk (below_then HB.out HB.out.size b_); obtain ⟨s1, Sz1⟩ : ∃ s, Aside0 (w1.heap.size = s) := ⟨_, ⟨rfl⟩⟩; have hs1 : w.heap.size ≤ s1 := (by rw [← Sz1.out]; exact HB1.out.size); have OO1 := Aside0.mk (Kd.R_mono (ok' := fun k => k < s1) (Kd.R_bound (Kd.R_below OO.out b_)) (fun k hk => by have h_ := hk.2.2.1; rw [Sz1.out] at h_; exact h_)); clear b_ HB OO C26 K26) | ((with_reducible refine gate_dst (N := 6) rfl ?_); refine hx_alloc rfl 6 rfl 42 rfl Sz1 (.agg (nums .i64 (List.replicate 24 0)).toArray) (nums .i64 (List.replicate 24 0)).toArray Z42 rfl ?_; intro w2 s2 L2 Sz2 b_ g_; have HA := Aside0.mk g_; have HB2 := Aside0.mk (below_then HB1.out HB1.out.size b_); have OO2 := Aside0.mk (Kd.R_below OO1.out b_); clear b_ g_ HB1 OO1) | ((with_reducible refine gate_store (t := 42) (p := 6) (v := .tmp 28) rfl ?_); refine hx_store rfl rfl 42 (.tmp 6) (.tmp 28) rfl s1 24 rfl (nums .i64 x).toArray rfl (by kernel_rfl) (nums_size _ _ _ HXL.out) (nums_one _ _) HA.out (by simp [nums]) ?_; intro w3 t_ gg_; have HA3 := Aside0.mk gg_; have HB3 := Aside0.mk (t_.below HB2.out (by omega)); have OO3 := Aside0.mk (Kd.R_kept OO2.out (kept_touch t_) (fun k hk h_ => by have h1_ : k = s1 := h_; have h2_ : k < s1 := hk; omega)); obtain ⟨s3, Sz3⟩ : ∃ s, Aside0 (w3.heap.size = s) := ⟨_, ⟨rfl⟩⟩; clear t_ gg_ HA HB2 OO2))
          go_ret2
          exact ⟨_, rfl, Kd.R_nil _ _ _ _ _, HB3.out⟩
      · obtain rfl : k = l0.length := by have := hj.out; have := HK.out; have := HN.out; omega
        obtain rfl : j = n := by have := hj.out; have := HK.out; have := HN.out; omega
        have c9b0 : decide ((l0.length : Int) < (l0.length : Int)) = false := decide_eq_false (by omega)
        have c9b1 : decide (l0.length < l0.length) = false := decide_eq_false c9
        clear c9
        obtain ⟨rs, hrs⟩ : ∃ rs, rs = rowsTo l0 j := ⟨_, rfl⟩
        rw [← hrs] at OO
        have HRL := Aside0.mk (show rs.length = j by rw [hrs]; exact rowsTo_length l0 j)
        have HAG := Aside0.mk (show allGood rs = true by rw [hrs]; exact rows_good HG.out)
        have HW := Aside0.mk (show ∀ x ∈ rs, x.length = 24 by rw [hrs]; exact rowsTo_wide l0 j)
        have HD1 := Aside0.mk (show tabEnd rs = true → decTable l0 = (rs, 0) by
          intro ht
          unfold decTable
          rw [← HNE.out, chunksOk_of HG.out, ← hrs, ht, ← HSB.out]
          rfl)
        have HD0 := Aside0.mk (show tabEnd rs = false → decTable l0 = ([], 21) by
          intro ht
          exact spec_DecodeTable.bad (.inr (.inr (by rw [← HNE.out, ← hrs]; exact ht))))
        clear hrs
        obtain ⟨A4, c4, rfl⟩ := Kd.R_slice OO.out
        have HFZ := Aside0.mk (rows_first (show 0 < rs.length by rw [HRL.out]; have := HN1.out; omega) HAG.out)
        by_cases c0z : (rs.getD 0 []).getD 0 0 = 0
        · have HET := Aside0.mk (show spec_EncodeTable.f rs = some (tableBytes rs, 0) by unfold spec_EncodeTable.f tableGood; rw [HAG.out, HFZ.out, decide_eq_true c0z, decide_eq_true (rows_small rs (by rw [HRL.out]; have := HN1.out; omega))]; rfl)
          obtain ⟨tb, htb⟩ : ∃ tb, tb = tableBytes rs := ⟨_, rfl⟩
          rw [← htb] at HET
          have HTL := Aside0.mk (show (tb.length : Int) = 128 * (lastOf rs + 1) by rw [htb]; unfold tableBytes; rw [tableBytesTo_length HW.out]; have := lastOf_pos rs; omega)
          have hlast := rows_last rs (by rw [HRL.out]; have := HN1.out; omega)
          by_cases cl : lastOf rs + 1 = (rs.length : Int)
          · have HT := Aside0.mk (show tabEnd rs = true by
              unfold tabEnd
              rw [decide_eq_true c0z, Bool.true_and, Bool.or_eq_true, Bool.not_eq_true', decide_eq_true_eq, decide_eq_false_iff_not]
              exact hlast.1 cl)
            have hlen : tb.length = l0.length := by have := HTL.out; have := HN.out; have := HRL.out; omega
            have c48b0 : ((tb.length : Int) != (l0.length : Int)) = false := by rw [hlen]; simp
            have c48b1 : (tb.length != l0.length) = false := by rw [hlen]; simp
            clear htb hlast cl c0z hlen
            go_wp2_with (first | ((with_reducible refine gate_dst (N := 38) rfl ?_); refine goesL_ (some 38) rfl rfl Try.func28 (by kernel_rfl) rfl #[.slice A4 rs.length c4] rfl (by (try simp only [List.map_toArray, List.map_cons, List.map_nil]); first | done | rfl) ?_; refine (spec_EncodeTable.calls A4 c4 rs tb 0 _ (Kd.R_reads' OO.out).2.2 (Kd.R_reads' OO.out).2.1 HET.out).mono ?_; rintro e_ w3 ⟨v38, rfl, R_, b_⟩; obtain ⟨A38, c38, rfl⟩ := Kd.R_slice R_; refine ⟨_, rfl, ?_⟩; have OOe := Aside0.mk (Kd.R_below OO.out b_); have HBe := Aside0.mk (below_then HB.out HB.out.size b_); clear R_ b_ HB OO))
            go_ret2
            have h_ := HH.out
            rw [HD1.out HT.out] at h_
            simp only [Prod.mk.injEq] at h_
            obtain ⟨rfl, rfl⟩ := h_
            exact ⟨_, rfl, OOe.out, HBe.out⟩
          · have HT := Aside0.mk (show tabEnd rs = false by
              unfold tabEnd
              rw [decide_eq_true c0z, Bool.true_and, Bool.or_eq_false_iff, Bool.not_eq_false', decide_eq_true_eq, decide_eq_false_iff_not]
              exact ⟨fun h_ => cl (hlast.2 (.inl h_)), Classical.not_not.1 (fun h_ => cl (hlast.2 (.inr h_)))⟩)
            have hlen : ¬ tb.length = l0.length := by have := HTL.out; have := HN.out; have := HRL.out; omega
            have c48b0 : ((tb.length : Int) != (l0.length : Int)) = true := bne_iff_ne.2 (by omega)
            have c48b1 : (tb.length != l0.length) = true := bne_iff_ne.2 hlen
            clear htb hlast cl c0z hlen
            go_wp2_with (first | ((with_reducible refine gate_dst (N := 38) rfl ?_); refine goesL_ (some 38) rfl rfl Try.func28 (by kernel_rfl) rfl #[.slice A4 rs.length c4] rfl (by (try simp only [List.map_toArray, List.map_cons, List.map_nil]); first | done | rfl) ?_; refine (spec_EncodeTable.calls A4 c4 rs tb 0 _ (Kd.R_reads' OO.out).2.2 (Kd.R_reads' OO.out).2.1 HET.out).mono ?_; rintro e_ w3 ⟨v38, rfl, R_, b_⟩; obtain ⟨A38, c38, rfl⟩ := Kd.R_slice R_; refine ⟨_, rfl, ?_⟩; have OOe := Aside0.mk (Kd.R_below OO.out b_); have HBe := Aside0.mk (below_then HB.out HB.out.size b_); clear R_ b_ HB OO))
            go_ret2
            have h_ := HH.out
            rw [HD0.out HT.out] at h_
            simp only [Prod.mk.injEq] at h_
            obtain ⟨rfl, rfl⟩ := h_
            exact ⟨_, rfl, Kd.R_nil _ _ _ _ _, HBe.out⟩
        · have HET := Aside0.mk (show spec_EncodeTable.f rs = some ([], 7) by unfold spec_EncodeTable.f tableGood; rw [HAG.out, HFZ.out, decide_eq_false c0z]; rfl)
          have HT := Aside0.mk (show tabEnd rs = false by unfold tabEnd; rw [decide_eq_false c0z]; rfl)
          clear c0z
          go_wp2_with (first | ((with_reducible refine gate_dst (N := 38) rfl ?_); refine goesL_ (some 38) rfl rfl Try.func28 (by kernel_rfl) rfl #[.slice A4 rs.length c4] rfl (by (try simp only [List.map_toArray, List.map_cons, List.map_nil]); first | done | rfl) ?_; refine (spec_EncodeTable.calls A4 c4 rs [] 7 _ (Kd.R_reads' OO.out).2.2 (Kd.R_reads' OO.out).2.1 HET.out).mono ?_; rintro e_ w3 ⟨v38, rfl, R_, b_⟩; obtain ⟨A38, c38, rfl⟩ := Kd.R_slice R_; refine ⟨_, rfl, ?_⟩; have OOe := Aside0.mk (Kd.R_below OO.out b_); have HBe := Aside0.mk (below_then HB.out HB.out.size b_); clear R_ b_ HB OO))
          go_ret2
          have h_ := HH.out
          rw [HD0.out HT.out] at h_
          simp only [Prod.mk.injEq] at h_
          obtain ⟨rfl, rfl⟩ := h_
          exact ⟨_, rfl, Kd.R_nil _ _ _ _ _, HBe.out⟩

/-! ### impl_put_int: function 53 -/
def impl_put_int.l0 : Nat → List Int → Int → Int → Int → Int → Option (List Int)
  | 0, _, _, _, _, _ => none
  | k + 1, x0, x1, x3, x9, x10 => if x10 < x9 then (if 0 ≤ (wrap64 (8 * x10)) then (if 0 ≤ (wrap64 (x1 + x10)) then (if (wrap64 (x1 + x10)) < (x0.length : Int) then (impl_put_int.l0 k (x0.set ((wrap64 (x1 + x10)) : Int).toNat ((shr .u64 (IntKind.u64.wrap (x3)) (wrap64 (8 * x10))) % 256)) x1 x3 x9 (wrap64 (x10 + 1))) else (none)) else (none)) else (none)) else (some x0)
def impl_put_int.f (k : Nat) (l0 : List Int) (a1 : Int) (a2 : Int) (a3 : Int) : Option (List Int) := impl_put_int.l0 k l0 a1 a3 a2 0
theorem impl_put_int.mono_l : ∀ k, (∀ y0 y1 y2 y3 y4, LeO (impl_put_int.l0 k y0 y1 y2 y3 y4) (impl_put_int.l0 (k + 1) y0 y1 y2 y3 y4))
  | 0 => fun _ _ _ _ _ r h => by simp [impl_put_int.l0] at h
  | k + 1 => by
    have ih0 := impl_put_int.mono_l k
    · intro y0 y1 y2 y3 y4
      unfold impl_put_int.l0
      repeat' first
      | (with_reducible exact ih0 _ _ _ _ _)
      | (with_reducible exact LeO.refl _)
      | (with_reducible exact LeO.none _)
      | (with_reducible refine LeO.ite ?_ ?_)
      | (with_reducible refine LeO.bind ?_ (fun _ => ?_))
      | exact ih0 _ _ _ _ _
      | exact LeO.none _
      | refine LeO.ite ?_ ?_
      | refine LeO.bind ?_ (fun _ => ?_)
theorem impl_put_int.mono : ∀ a0 a1 a2 a3 k, LeO (impl_put_int.f k a0 a1 a2 a3) (impl_put_int.f (k + 1) a0 a1 a2 a3) := by
  intro a0 a1 a2 a3 k
  have ih0 := impl_put_int.mono_l k
  unfold impl_put_int.f
  repeat' first
      | (with_reducible exact ih0 _ _ _ _ _)
      | (with_reducible exact LeO.refl _)
      | (with_reducible exact LeO.none _)
      | (with_reducible refine LeO.ite ?_ ?_)
      | (with_reducible refine LeO.bind ?_ (fun _ => ?_))
      | exact ih0 _ _ _ _ _
      | exact LeO.none _
      | refine LeO.ite ?_ ?_
      | refine LeO.bind ?_ (fun _ => ?_)
set_option maxHeartbeats 8000000 in
set_option maxRecDepth 100000 in
theorem impl_put_int.calls (k : Nat) (P0_ : Nat → Prop) (u9000_ : Value) (l0 : List Int) (a1 : Int) (a2 : Int) (a3 : Int) (r : List Int) (w0 w : World) (hB : Below w0.heap.size w0 w) (ho0 : Kd.R (Kd.int .u8) 5 w w0.heap.size P0_ u9000_ l0) (h : impl_put_int.f k l0 a1 a2 a3 = some r) :
    Calls Try.prog 53 #[u9000_, .int .i64 a1, .int .i64 a2, .int .i64 a3] w fun e w' => e = .returned (.tuple #[]) ∧ Kd.R (Kd.int .u8) 5 w' w0.heap.size (fun k_ => (P0_ k_ ∨ w.heap.size ≤ k_)) u9000_ r ∧ Below w0.heap.size w0 w' ∧ Kept w w' (fun k_ => P0_ k_) := by
  have HO0 := Aside0.mk (show Kd.R (Kd.int .u8) 5 w w0.heap.size (fun k_ => (P0_ k_ ∨ w.heap.size ≤ k_)) u9000_ l0 from Kd.R_mono ho0 (fun k_ hk => (.inl hk)))
  have HK := Aside0.mk (Kept.refl w (fun k_ => P0_ k_))
  have HW0 := Aside0.mk hB.size
  have HB := Aside0.mk hB
  clear hB
  have H : (impl_put_int.l0 k l0 a1 a3 a2 0) = some r := h
  clear h
  have H' := Aside0.mk H
  clear H
  go_enter Try.func53, Try.ntmps53
  go_wp2
  go_loopg [10] k (fun kq v10 w' => ∃ (x0_1 : List Int) (x10_1 : Int), v10 = .int .i64 x10_1 ∧ Aside0 (impl_put_int.l0 kq x0_1 a1 a3 a2 x10_1 = some r) ∧ Aside0 (kq ≤ k) ∧ Aside0 (Kd.R (Kd.int .u8) 5 w' w0.heap.size (fun k_ => (P0_ k_ ∨ w.heap.size ≤ k_)) u9000_ x0_1) ∧ Aside0 (Kept w w' (fun k_ => P0_ k_)) ∧ Aside0 (Below w0.heap.size w0 w'))
  case atStart => exact ⟨(l0), (0), (by first | rfl | (simp; done) | (simp [*]; done)), H', ⟨Nat.le_refl _⟩, ⟨by (with_reducible repeat (first | apply Kd.R_alloc | apply Kd.R_drewN | apply Kd.R_drew)); exact HO0.out⟩, ⟨by repeat (first | (with_reducible first | exact HK.out | apply Kept.alloc | apply Kept.drewN | apply Kept.drew) | exact HK.out)⟩, ⟨by repeat (first | (with_reducible first | exact HB.out | apply below_alloc | apply pw_below_drewN | apply below_drew1) | exact HB.out)⟩⟩
  case round =>
    clear H'
    try clear p2
    obtain ⟨x0_1, x10_1, rfl, HA, HK1, HO_0, HK, HB⟩ := hrel
    cases gk with
    | zero => exact absurd HA.out (by simp [impl_put_int.l0])
    | succ k1 =>
      have H := HA.out
      clear HA
      simp only [impl_put_int.l0] at H
      by_cases c5 : x10_1 < a2
      · rw [if_pos c5] at H
        have c5b0 : decide (x10_1 < a2) = true := decide_eq_true c5
        clear c5
        obtain ⟨ji6, hji6⟩ : ∃ j_ : Int, (wrap64 (8 * x10_1)) = j_ := ⟨_, rfl⟩
        replace H : (if 0 ≤ (ji6) then (if 0 ≤ (wrap64 (a1 + x10_1)) then (if (wrap64 (a1 + x10_1)) < (x0_1.length : Int) then (impl_put_int.l0 k1 (x0_1.set ((wrap64 (a1 + x10_1)) : Int).toNat ((shr .u64 (IntKind.u64.wrap (a3)) (ji6)) % 256)) a1 a3 a2 (wrap64 (x10_1 + 1))) else (none)) else (none)) else (none)) = some r := by first | (rw [hji6] at H; exact H) | (simp only [hji6] at H ⊢; exact H)
        have hji6w : (IntKind.i64.wrap (8 * x10_1)) = ji6 := (i64_w _).trans hji6
        by_cases c7 : 0 ≤ (ji6)
        · rw [if_pos c7] at H
          have c7b0 := eq_true c7
          have c7b1 : decide (0 ≤ (ji6)) = true := decide_eq_true c7
          clear c7
          obtain ⟨ji8, hji8⟩ : ∃ j_ : Int, (shr .u64 (IntKind.u64.wrap (a3)) (ji6)) = j_ := ⟨_, rfl⟩
          replace H : (if 0 ≤ (wrap64 (a1 + x10_1)) then (if (wrap64 (a1 + x10_1)) < (x0_1.length : Int) then (impl_put_int.l0 k1 (x0_1.set ((wrap64 (a1 + x10_1)) : Int).toNat ((ji8) % 256)) a1 a3 a2 (wrap64 (x10_1 + 1))) else (none)) else (none)) = some r := by first | (rw [hji8] at H; exact H) | (simp only [hji8] at H ⊢; exact H)
          have hji8_ : ((IntKind.u64.wrap (a3)) / 2 ^ min (ji6).toNat 64) = ji8 := hji8
          have hji8z : (ji6) ≤ 64 → ((IntKind.u64.wrap (a3)) / 2 ^ (ji6).toNat) = ji8 := shr_small hji8
          obtain ⟨ji9, hji9⟩ : ∃ j_ : Int, (wrap64 (a1 + x10_1)) = j_ := ⟨_, rfl⟩
          replace H : (if 0 ≤ (ji9) then (if (ji9) < (x0_1.length : Int) then (impl_put_int.l0 k1 (x0_1.set ((ji9) : Int).toNat ((ji8) % 256)) a1 a3 a2 (wrap64 (x10_1 + 1))) else (none)) else (none)) = some r := by first | (rw [hji9] at H; exact H) | (simp only [hji9] at H ⊢; exact H)
          have hji9w : (IntKind.i64.wrap (a1 + x10_1)) = ji9 := (i64_w _).trans hji9
          by_cases c10 : 0 ≤ (ji9)
          · rw [if_pos c10] at H
            have c10b0 : decide (0 ≤ (ji9)) = true := decide_eq_true c10
            clear c10
            by_cases c11 : (ji9) < (x0_1.length : Int)
            · rw [if_pos c11] at H
              have c11b0 : decide ((ji9) < (x0_1.length : Int)) = true := decide_eq_true c11
              clear c11
              obtain ⟨y132, hy132⟩ : ∃ y_ : List Int, y_ = (x0_1.set ((ji9) : Int).toNat ((ji8) % 256)) := ⟨_, rfl⟩
              replace H : (impl_put_int.l0 k1 y132 a1 a3 a2 (wrap64 (x10_1 + 1))) = some r := by first | (rw [hy132]; with_reducible exact H) | (have H2_ := (Option.bind_some _ _).symm.trans H; rw [hy132]; with_reducible exact H2_) | (have H2_ := (Option.bind_some _ _).symm.trans H; with_reducible exact H2_) | with_reducible exact H | (rw [hy132]; exact H) | exact H
              have Ny132 := Aside0.mk hy132
              clear hy132
              have H' := Aside0.mk H
              clear H
              have p12 : 0 ≤ ((ji9) : Int) := of_decide_eq_true (by first | (with_reducible assumption) | assumption)
              have q12 : ((ji9) : Int) < ((x0_1.length : Int) : Int) := of_decide_eq_true (by first | (with_reducible assumption) | assumption)
              obtain ⟨go12, co12, eo12, gb12, gl12, cl12, HG12⟩ := Kd.R_form HO_0.out (by omega)
              (first | cases eo12 | (injection eo12 with ea_ en_ ec_; (first | subst ea_ | (injection ea_ with ea_; subst ea_)); subst ec_; clear en_))
              have GB12 := Aside0.mk gb12
              have GG12 := Aside0.mk HG12
              clear gb12 gl12 HG12
              have HMgo12 := Aside0.mk (show (P0_ go12 ∨ w.heap.size ≤ go12) from (HO_0.out.1 _ rfl))
              obtain ⟨hx12_0, hf12_0⟩ := Kd.R_celln 0 HO_0.out ((ji9) : Int) p12 q12
              replace p12 := eq_true p12
              replace q12 := eq_true q12
              have HP13 := Kd.R_putg HO_0.out ((ji9) : Int) ((ji8) % 256)
              go_wp2_with (first | ((with_reducible refine gate_store (t := 5) (p := 23) rfl ?_); refine store_event (t := 5) (p := 23) (v := ?vo_w14) (w1 := (wr.setCell ⟨go12, ((ji9) : Int).toNat, none⟩ (.int .u8 ((ji8) % 256)))) ?hg ?ho ?hn ?hr ?_; (case ho => rfl); (case hg => rfl); (case hn => rfl); (case hr => first | (go_simp; done) | (go_simp; rfl)); intro w14 hw; have hg : wr.grownBy w14 (some go12) := (by rw [hw]; exact HP13.2); have hp_ : Kd.R (Kd.int .u8) 5 w14 w0.heap.size (fun k_ => (P0_ k_ ∨ w.heap.size ≤ k_)) (.slice (some ⟨go12, 0, none⟩) x0_1.length co12) y132 := (by rw [hw, Ny132.out]; exact HP13.1); clear HP13; have n0_ := Aside0.mk (hp_); have n1_ := Aside0.mk ((by rw [hw]; exact below_set (HB.out) GB12.out : Below w0.heap.size w0 w14)); have n2_ := Aside0.mk (Kept.of_grown (S := (fun k_ => P0_ k_)) hg (by repeat (first | (with_reducible first | exact HK.out | apply Kept.alloc | apply Kept.drewN | apply Kept.drew) | exact HK.out)) (fun k_ e_ => (HO_0.out.1 k_ e_))); clear HO_0; clear HB; clear HK; have HO_0 := n0_; have HB := n1_; have HK := n2_; clear n0_ n1_ n2_; clear hg hw hp_))
              go_roundg k1
              case measure => have := HK1.out; omega
              case rel => exact ⟨(y132), (wrap64 (x10_1 + 1)), (by first | rfl | (simp; done) | (simp [*]; done)), H', ⟨by have := HK1.out; omega⟩, ⟨by (with_reducible repeat (first | apply Kd.R_alloc | apply Kd.R_drewN | apply Kd.R_drew)); exact HO_0.out⟩, ⟨by repeat (first | (with_reducible first | exact HK.out | apply Kept.alloc | apply Kept.drewN | apply Kept.drew) | exact HK.out)⟩, ⟨by repeat (first | (with_reducible first | exact HB.out | apply below_alloc | apply pw_below_drewN | apply below_drew1) | exact HB.out)⟩⟩
            · rw [if_neg c11] at H
              exact absurd H (by simp)
          · rw [if_neg c10] at H
            exact absurd H (by simp)
        · rw [if_neg c7] at H
          exact absurd H (by simp)
      · rw [if_neg c5] at H
        have c5b0 : decide (x10_1 < a2) = false := decide_eq_false c5
        clear c5
        obtain rfl := Option.some.inj H
        go_wp2
        first | go_end0 | ((try simp only [Exit.inBlock, Exit.then]); refine bodyPost_ret (results_none rfl _ _ _) rfl ?_)
        exact ⟨by first | rfl | (simp [errW_none, errW_some] <;> rfl) | (simp [*, errW_none, errW_some] <;> rfl), by (with_reducible repeat (first | apply Kd.R_alloc | apply Kd.R_drewN | apply Kd.R_drew)); exact HO_0.out, by repeat (first | (with_reducible first | exact HB.out | apply below_alloc | apply pw_below_drewN | apply below_drew1) | exact HB.out), by repeat (first | (with_reducible first | exact HK.out | apply Kept.alloc | apply Kept.drewN | apply Kept.drew) | exact HK.out)⟩

end Go.Proofs.Ytkghgjehjchajaa.PFnExactDecodeTable
