-- Written by a program of this session (patch_print.py over the kit print)
import Derived.Test.YtkghgjehjchajaaPFnExactEncodeTablex0
import Derived.Test.YtkghgjehjchajaaPFnExactEncodeTablex7
namespace Go.Proofs.Ytkghgjehjchajaa.PFnExactEncodeTable
open Go.RowKit Go.Proofs.YtkghgjehjchajaaW.PrintWords Go.Proofs.YtkghgjehjchajaaW.PrintLast Go.Proofs.YtkghgjehjchajaaW.PrintMore
attribute [local go_sem] max2_int min2_int max_two min_two max_three min_three max_four min_four   -- for this text's walks alone
set_option linter.unusedVariables false
set_option linter.unusedSimpArgs false

open Go.Proofs.YtkghgjehjchajaaW Go.Proofs.YtkghgjehjchajaaW.PrintHand Go.Proofs.YtkghgjehjchajaaW.PrintHx
/-! ### laws_toInodeS: function 29 -/
def laws_toInodeS.f (l0 : List (List Int)) : Option (List (List Int)) := if l0.length ≤ 1466015503701 then some l0 else none
set_option maxHeartbeats 8000000 in
set_option maxRecDepth 100000 in
theorem laws_toInodeS.calls (A0 : Option Addr) (c0 : Nat) (l0 : List (List Int)) (r : List (List Int)) (w : World) (hr0 : Kd.C (PrintHx.wide 24) w A0 l0.length l0) (hc0 : l0.length ≤ c0) (h : laws_toInodeS.f l0 = some r) :
    Calls Try.prog 29 #[.slice A0 l0.length c0] w fun e w' => ∃ v0_ : Value, e = .returned (v0_) ∧ Kd.R (PrintHx.wide 24) 42 w' w.heap.size (fun _ => True) v0_ r ∧ Below w.heap.size w w' := by
  unfold laws_toInodeS.f at h
  by_cases c : l0.length ≤ 1466015503701
  case neg => rw [if_neg c] at h; cases h
  rw [if_pos c] at h
  obtain rfl := Option.some.inj h
  have HR0 := Aside0.mk hr0
  have HC0 := Aside0.mk hc0
  have CL := Aside0.mk c
  clear hr0 hc0 h c
  have c2b1 : decide (0 ≤ (l0.length : Int)) = true := decide_eq_true (by omega)
  have hi_ : (Try.prog.info? 42).map (fun i => (i.zero, i.size, i.bytes)) = some (some (.agg (nums .i64 (List.replicate 24 0)).toArray), 24, 192) := by kernel_rfl
  have hu42 := Try.underlying42
  go_enter Try.func29, Try.ntmps29
  go_wp2_with (first | ((with_reducible refine gate_dst (N := 7) rfl ?_); refine Kd.R_make (PrintHx.wide 24) (w0 := w) w.heap.size 42 rfl (N := 7) rfl 51 _ _ rfl (l0.length : Int) rfl rfl Try.underlying51 (.agg (nums .i64 (List.replicate 24 0)).toArray) 192 hi_ rfl (by decide) (by omega) (List.replicate 24 0) (ok := fun _ => True) (okp := fun _ => True) (wide_zero _ _ _) (fun _ hk => hk) trivial (by omega) (by have := CL.out; rw [Int.toNat_natCast]; omega) (Below.refl _ _) (Nat.le_refl _) ?_; intro v7 w1 ho hb hg_ hnew_; clear hg_ hnew_; rw [Int.toNat_natCast] at ho; have HO := Aside0.mk ho; have HB := Aside0.mk hb; clear ho hb))
  (try simp only [Act.put, List.setIfInBounds_toArray, List.set_cons_succ, List.set_cons_zero])
  go_loopw [4] (fun v4 wr => ∃ j : Nat, v4 = .int .i64 (j : Int) ∧ Aside0 (j ≤ l0.length) ∧ Aside0 (Kd.R (PrintHx.wide 24) 42 wr w.heap.size (fun _ => True) v7 (l0.take j ++ List.replicate (l0.length - j) (List.replicate 24 0))) ∧ Aside0 (Below w.heap.size w wr)) (fun v4 _ => l0.length - (intOf v4).toNat)
  case atStart => exact ⟨0, rfl, ⟨Nat.zero_le _⟩, HO, HB⟩
  case round =>
    clear HO HB
    obtain ⟨j, rfl, hj, HO, HB⟩ := hrel
    by_cases c9 : j < l0.length
    · have c9b0 : decide ((j : Int) < (l0.length : Int)) = true := decide_eq_true (by omega)
      have c9b1 : decide (j < l0.length) = true := decide_eq_true c9
      obtain ⟨ad, ea, hl, hc⟩ := wide_at (Kd.C_below HR0.out HB.out) j c9
      subst ea
      obtain ⟨x, hx⟩ : ∃ x, x = l0.getD j [] := ⟨_, rfl⟩
      rw [← hx] at hl hc
      have HX := Aside0.mk hx
      have HL := Aside0.mk hl
      have HC := Aside0.mk hc
      clear hx hl hc
      obtain ⟨ys, hys⟩ : ∃ ys, ys = l0.take j ++ List.replicate (l0.length - j) (List.replicate 24 0) := ⟨_, rfl⟩
      have HO2 := HO.out
      rw [← hys] at HO2
      have hyl : ys.length = l0.length := by rw [hys, List.length_append, List.length_take, List.length_replicate]; omega
      obtain ⟨g, cap, ev, hbg, hlt_, cells, hce⟩ := Kd.R_form HO2 (by omega)
      subst ev
      have HY := Aside0.mk hys
      have HYL := Aside0.mk hyl
      have HO3 := Aside0.mk HO2
      clear hys HO HO2 hbg hlt_ hce
      have q1 : ((j : Int) < (ys.length : Int)) = True := eq_true (by omega)
      have q2 : (j < ys.length) = True := eq_true (by omega)
      have q3 : ((j : Int) < (l0.length : Int)) = True := eq_true (by omega)
      have q4 : (0 ≤ (j : Int)) = True := eq_true (by omega)
      have q5 : (j < l0.length) = True := eq_true c9
      have C9 := Aside0.mk c9
      clear hyl c9
      go_wp2_with (first | ((with_reducible refine gate_dst (N := 19) rfl ?_); refine hx_load_at rfl 39 (.tmp 18) rfl (ad.add (j * 24)) rfl x 24 Try.underlying39 rfl (by kernel_rfl) HL.out (fun i hi => by rw [Addr.add_add]; exact HC.out i hi) ?_) | ((with_reducible refine gate_dst (N := 20) rfl ?_); refine goesL_ (some 20) rfl rfl Try.func22 (by kernel_rfl) rfl #[.agg (nums .i64 x).toArray] rfl (by (try simp only [List.map_toArray, List.map_cons, List.map_nil]); first | done | rfl) ?_; refine (laws_toInode.calls _ HL.out _ _ (if_pos HL.out)).mono ?_; rintro e_ w2 ⟨rfl, b2⟩; refine ⟨_, rfl, ?_⟩; have HO4 := Aside0.mk (Kd.R_below HO3.out b2); have HB4 := Aside0.mk (below_then HB.out HB.out.size b2); clear b2 HO3 HB) | ((with_reducible refine gate_store (t := 42) (p := 21) (v := .tmp 20) rfl ?_); refine hx_put (w0 := w) w.heap.size rfl rfl 42 (.tmp 21) (.tmp 20) rfl 42 j ys x (fun _ => True) rfl (by first | rfl | simp) rfl (by kernel_rfl) HL.out HO4.out (of_eq_true q2) HB4.out ?_; intro w3 ho3 hb3 hg3; have HO5 := Aside0.mk ho3; have HB5 := Aside0.mk hb3; clear ho3 hb3 hg3 HO4 HB4))
      go_roundw
      case rel =>
        refine ⟨j + 1, by rw [show wrap64 ((j : Int) + 1) = ((j + 1 : Nat) : Int) by (have := CL.out; have := C9.out; unfold wrap64; omega)], ⟨by have := C9.out; omega⟩, ⟨?_⟩, HB5⟩
        have h := HO5.out
        have e : ys.set j x = l0.take (j + 1) ++ List.replicate (l0.length - (j + 1)) (List.replicate 24 0) := by
          have hj2 := C9.out
          have hx := HX.out
          rw [List.getD_eq_getElem?_getD, List.getElem?_eq_getElem hj2, Option.getD_some] at hx
          have ht : (l0.take j).length = j := by rw [List.length_take]; omega
          rw [HY.out, List.set_append_right _ _ (by omega), ht, Nat.sub_self, show l0.length - j = (l0.length - (j + 1)) + 1 by omega, List.replicate_succ, List.set_cons_zero, List.take_succ_eq_append_getElem hj2, List.append_assoc, hx]
          rfl
        have e2 : ys.length = (l0.take (j + 1) ++ List.replicate (l0.length - (j + 1)) (List.replicate 24 0)).length := by rw [← e, List.length_set]
        rw [e] at h
        exact h
      case measure =>
        rw [show wrap64 ((j : Int) + 1) = ((j + 1 : Nat) : Int) by (have := CL.out; have := C9.out; unfold wrap64; omega)]
        simp only [intOf, Int.toNat_natCast]
        have := C9.out
        omega
    · have c9b0 : decide ((j : Int) < (l0.length : Int)) = false := decide_eq_false (by omega)
      have c9b1 : decide (j < l0.length) = false := decide_eq_false c9
      have e : l0.take j ++ List.replicate (l0.length - j) (List.replicate 24 0) = l0 := by
        rw [List.take_of_length_le (by omega), show l0.length - j = 0 by omega]
        simp
      have h := HO.out
      rw [e] at h
      have HF := Aside0.mk h
      clear h e HO c9
      go_wp2
      go_ret
      exact ⟨_, rfl, HF.out, HB.out⟩

/-! ### impl_put_int: function 53 -/
def impl_put_int.l0 : Nat → List Int → Int → Int → Int → Int → Option (List Int)
  | 0, _, _, _, _, _ => none
  | k + 1, x0, x1, x3, x9, x10 => if x10 < x9 then (if 0 ≤ (wrap64 (8 * x10)) then (if 0 ≤ (wrap64 (x1 + x10)) then (if (wrap64 (x1 + x10)) < (x0.length : Int) then (impl_put_int.l0 k (x0.set ((wrap64 (x1 + x10)) : Int).toNat ((shr .u64 (IntKind.u64.wrap (x3)) (wrap64 (8 * x10))) % 256)) x1 x3 x9 (wrap64 (x10 + 1))) else (none)) else (none)) else (none)) else (some x0)
def impl_put_int.f (k : Nat) (l0 : List Int) (a1 : Int) (a2 : Int) (a3 : Int) : Option (List Int) := impl_put_int.l0 k l0 a1 a3 a2 0
theorem impl_put_int.mono_l : ∀ k, (∀ y0 y1 y2 y3 y4, LeO (impl_put_int.l0 k y0 y1 y2 y3 y4) (impl_put_int.l0 (k + 1) y0 y1 y2 y3 y4))
  | 0 => fun _ _ _ _ _ r h => by simp [impl_put_int.l0] at h
  | k + 1 => by
    have ih0 := impl_put_int.mono_l k
    · intro y0 y1 y2 y3 y4
      unfold impl_put_int.l0
      repeat' first
      | (with_reducible exact ih0 _ _ _ _ _)
      | (with_reducible exact LeO.refl _)
      | (with_reducible exact LeO.none _)
      | (with_reducible refine LeO.ite ?_ ?_)
      | (with_reducible refine LeO.bind ?_ (fun _ => ?_))
      | exact ih0 _ _ _ _ _
      | exact LeO.none _
      | refine LeO.ite ?_ ?_
      | refine LeO.bind ?_ (fun _ => ?_)
theorem impl_put_int.mono : ∀ a0 a1 a2 a3 k, LeO (impl_put_int.f k a0 a1 a2 a3) (impl_put_int.f (k + 1) a0 a1 a2 a3) := by
  intro a0 a1 a2 a3 k
  have ih0 := impl_put_int.mono_l k
  unfold impl_put_int.f
  repeat' first
      | (with_reducible exact ih0 _ _ _ _ _)
      | (with_reducible exact LeO.refl _)
      | (with_reducible exact LeO.none _)
      | (with_reducible refine LeO.ite ?_ ?_)
      | (with_reducible refine LeO.bind ?_ (fun _ => ?_))
      | exact ih0 _ _ _ _ _
      | exact LeO.none _
      | refine LeO.ite ?_ ?_
      | refine LeO.bind ?_ (fun _ => ?_)
set_option maxHeartbeats 8000000 in
set_option maxRecDepth 100000 in
theorem impl_put_int.calls (k : Nat) (P0_ : Nat → Prop) (u9000_ : Value) (l0 : List Int) (a1 : Int) (a2 : Int) (a3 : Int) (r : List Int) (w0 w : World) (hB : Below w0.heap.size w0 w) (ho0 : Kd.R (Kd.int .u8) 5 w w0.heap.size P0_ u9000_ l0) (h : impl_put_int.f k l0 a1 a2 a3 = some r) :
    Calls Try.prog 53 #[u9000_, .int .i64 a1, .int .i64 a2, .int .i64 a3] w fun e w' => e = .returned (.tuple #[]) ∧ Kd.R (Kd.int .u8) 5 w' w0.heap.size (fun k_ => (P0_ k_ ∨ w.heap.size ≤ k_)) u9000_ r ∧ Below w0.heap.size w0 w' ∧ Kept w w' (fun k_ => P0_ k_) := by
  have HO0 := Aside0.mk (show Kd.R (Kd.int .u8) 5 w w0.heap.size (fun k_ => (P0_ k_ ∨ w.heap.size ≤ k_)) u9000_ l0 from Kd.R_mono ho0 (fun k_ hk => (.inl hk)))
  have HK := Aside0.mk (Kept.refl w (fun k_ => P0_ k_))
  have HW0 := Aside0.mk hB.size
  have HB := Aside0.mk hB
  clear hB
  have H : (impl_put_int.l0 k l0 a1 a3 a2 0) = some r := h
  clear h
  have H' := Aside0.mk H
  clear H
  go_enter Try.func53, Try.ntmps53
  go_wp2
  go_loopg [10] k (fun kq v10 w' => ∃ (x0_1 : List Int) (x10_1 : Int), v10 = .int .i64 x10_1 ∧ Aside0 (impl_put_int.l0 kq x0_1 a1 a3 a2 x10_1 = some r) ∧ Aside0 (kq ≤ k) ∧ Aside0 (Kd.R (Kd.int .u8) 5 w' w0.heap.size (fun k_ => (P0_ k_ ∨ w.heap.size ≤ k_)) u9000_ x0_1) ∧ Aside0 (Kept w w' (fun k_ => P0_ k_)) ∧ Aside0 (Below w0.heap.size w0 w'))
  case atStart => exact ⟨(l0), (0), (by first | rfl | (simp; done) | (simp [*]; done)), H', ⟨Nat.le_refl _⟩, ⟨by (with_reducible repeat (first | apply Kd.R_alloc | apply Kd.R_drewN | apply Kd.R_drew)); exact HO0.out⟩, ⟨by repeat (first | (with_reducible first | exact HK.out | apply Kept.alloc | apply Kept.drewN | apply Kept.drew) | exact HK.out)⟩, ⟨by repeat (first | (with_reducible first | exact HB.out | apply below_alloc | apply pw_below_drewN | apply below_drew1) | exact HB.out)⟩⟩
  case round =>
    clear H'
    try clear p2
    obtain ⟨x0_1, x10_1, rfl, HA, HK1, HO_0, HK, HB⟩ := hrel
    cases gk with
    | zero => exact absurd HA.out (by simp [impl_put_int.l0])
    | succ k1 =>
      have H := HA.out
      clear HA
      simp only [impl_put_int.l0] at H
      by_cases c5 : x10_1 < a2
      · rw [if_pos c5] at H
        have c5b0 : decide (x10_1 < a2) = true := decide_eq_true c5
        clear c5
        obtain ⟨ji6, hji6⟩ : ∃ j_ : Int, (wrap64 (8 * x10_1)) = j_ := ⟨_, rfl⟩
        replace H : (if 0 ≤ (ji6) then (if 0 ≤ (wrap64 (a1 + x10_1)) then (if (wrap64 (a1 + x10_1)) < (x0_1.length : Int) then (impl_put_int.l0 k1 (x0_1.set ((wrap64 (a1 + x10_1)) : Int).toNat ((shr .u64 (IntKind.u64.wrap (a3)) (ji6)) % 256)) a1 a3 a2 (wrap64 (x10_1 + 1))) else (none)) else (none)) else (none)) = some r := by first | (rw [hji6] at H; exact H) | (simp only [hji6] at H ⊢; exact H)
        have hji6w : (IntKind.i64.wrap (8 * x10_1)) = ji6 := (i64_w _).trans hji6
        by_cases c7 : 0 ≤ (ji6)
        · rw [if_pos c7] at H
          have c7b0 := eq_true c7
          have c7b1 : decide (0 ≤ (ji6)) = true := decide_eq_true c7
          clear c7
          obtain ⟨ji8, hji8⟩ : ∃ j_ : Int, (shr .u64 (IntKind.u64.wrap (a3)) (ji6)) = j_ := ⟨_, rfl⟩
          replace H : (if 0 ≤ (wrap64 (a1 + x10_1)) then (if (wrap64 (a1 + x10_1)) < (x0_1.length : Int) then (impl_put_int.l0 k1 (x0_1.set ((wrap64 (a1 + x10_1)) : Int).toNat ((ji8) % 256)) a1 a3 a2 (wrap64 (x10_1 + 1))) else (none)) else (none)) = some r := by first | (rw [hji8] at H; exact H) | (simp only [hji8] at H ⊢; exact H)
          have hji8_ : ((IntKind.u64.wrap (a3)) / 2 ^ min (ji6).toNat 64) = ji8 := hji8
          have hji8z : (ji6) ≤ 64 → ((IntKind.u64.wrap (a3)) / 2 ^ (ji6).toNat) = ji8 := shr_small hji8
          obtain ⟨ji9, hji9⟩ : ∃ j_ : Int, (wrap64 (a1 + x10_1)) = j_ := ⟨_, rfl⟩
          replace H : (if 0 ≤ (ji9) then (if (ji9) < (x0_1.length : Int) then (impl_put_int.l0 k1 (x0_1.set ((ji9) : Int).toNat ((ji8) % 256)) a1 a3 a2 (wrap64 (x10_1 + 1))) else (none)) else (none)) = some r := by first | (rw [hji9] at H; exact H) | (simp only [hji9] at H ⊢; exact H)
          have hji9w : (IntKind.i64.wrap (a1 + x10_1)) = ji9 := (i64_w _).trans hji9
          by_cases c10 : 0 ≤ (ji9)
          · rw [if_pos c10] at H
            have c10b0 : decide (0 ≤ (ji9)) = true := decide_eq_true c10
            clear c10
            by_cases c11 : (ji9) < (x0_1.length : Int)
            · rw [if_pos c11] at H
              have c11b0 : decide ((ji9) < (x0_1.length : Int)) = true := decide_eq_true c11
              clear c11
              obtain ⟨y127, hy127⟩ : ∃ y_ : List Int, y_ = (x0_1.set ((ji9) : Int).toNat ((ji8) % 256)) := ⟨_, rfl⟩
              replace H : (impl_put_int.l0 k1 y127 a1 a3 a2 (wrap64 (x10_1 + 1))) = some r := by first | (rw [hy127]; with_reducible exact H) | (have H2_ := (Option.bind_some _ _).symm.trans H; rw [hy127]; with_reducible exact H2_) | (have H2_ := (Option.bind_some _ _).symm.trans H; with_reducible exact H2_) | with_reducible exact H | (rw [hy127]; exact H) | exact H
              have Ny127 := Aside0.mk hy127
              clear hy127
              have H' := Aside0.mk H
              clear H
              have p12 : 0 ≤ ((ji9) : Int) := of_decide_eq_true (by first | (with_reducible assumption) | assumption)
              have q12 : ((ji9) : Int) < ((x0_1.length : Int) : Int) := of_decide_eq_true (by first | (with_reducible assumption) | assumption)
              obtain ⟨go12, co12, eo12, gb12, gl12, cl12, HG12⟩ := Kd.R_form HO_0.out (by omega)
              (first | cases eo12 | (injection eo12 with ea_ en_ ec_; (first | subst ea_ | (injection ea_ with ea_; subst ea_)); subst ec_; clear en_))
              have GB12 := Aside0.mk gb12
              have GG12 := Aside0.mk HG12
              clear gb12 gl12 HG12
              have HMgo12 := Aside0.mk (show (P0_ go12 ∨ w.heap.size ≤ go12) from (HO_0.out.1 _ rfl))
              obtain ⟨hx12_0, hf12_0⟩ := Kd.R_celln 0 HO_0.out ((ji9) : Int) p12 q12
              replace p12 := eq_true p12
              replace q12 := eq_true q12
              have HP13 := Kd.R_putg HO_0.out ((ji9) : Int) ((ji8) % 256)
              go_wp2_with (first | ((with_reducible refine gate_store (t := 5) (p := 23) rfl ?_); refine store_event (t := 5) (p := 23) (v := ?vo_w14) (w1 := (wr.setCell ⟨go12, ((ji9) : Int).toNat, none⟩ (.int .u8 ((ji8) % 256)))) ?hg ?ho ?hn ?hr ?_; (case ho => rfl); (case hg => rfl); (case hn => rfl); (case hr => first | (go_simp; done) | (go_simp; rfl)); intro w14 hw; have hg : wr.grownBy w14 (some go12) := (by rw [hw]; exact HP13.2); have hp_ : Kd.R (Kd.int .u8) 5 w14 w0.heap.size (fun k_ => (P0_ k_ ∨ w.heap.size ≤ k_)) (.slice (some ⟨go12, 0, none⟩) x0_1.length co12) y127 := (by rw [hw, Ny127.out]; exact HP13.1); clear HP13; have n0_ := Aside0.mk (hp_); have n1_ := Aside0.mk ((by rw [hw]; exact below_set (HB.out) GB12.out : Below w0.heap.size w0 w14)); have n2_ := Aside0.mk (Kept.of_grown (S := (fun k_ => P0_ k_)) hg (by repeat (first | (with_reducible first | exact HK.out | apply Kept.alloc | apply Kept.drewN | apply Kept.drew) | exact HK.out)) (fun k_ e_ => (HO_0.out.1 k_ e_))); clear HO_0; clear HB; clear HK; have HO_0 := n0_; have HB := n1_; have HK := n2_; clear n0_ n1_ n2_; clear hg hw hp_))
              go_roundg k1
              case measure => have := HK1.out; omega
              case rel => exact ⟨(y127), (wrap64 (x10_1 + 1)), (by first | rfl | (simp; done) | (simp [*]; done)), H', ⟨by have := HK1.out; omega⟩, ⟨by (with_reducible repeat (first | apply Kd.R_alloc | apply Kd.R_drewN | apply Kd.R_drew)); exact HO_0.out⟩, ⟨by repeat (first | (with_reducible first | exact HK.out | apply Kept.alloc | apply Kept.drewN | apply Kept.drew) | exact HK.out)⟩, ⟨by repeat (first | (with_reducible first | exact HB.out | apply below_alloc | apply pw_below_drewN | apply below_drew1) | exact HB.out)⟩⟩
            · rw [if_neg c11] at H
              exact absurd H (by simp)
          · rw [if_neg c10] at H
            exact absurd H (by simp)
        · rw [if_neg c7] at H
          exact absurd H (by simp)
      · rw [if_neg c5] at H
        have c5b0 : decide (x10_1 < a2) = false := decide_eq_false c5
        clear c5
        obtain rfl := Option.some.inj H
        go_wp2
        first | go_end0 | ((try simp only [Exit.inBlock, Exit.then]); refine bodyPost_ret (results_none rfl _ _ _) rfl ?_)
        exact ⟨by first | rfl | (simp [errW_none, errW_some] <;> rfl) | (simp [*, errW_none, errW_some] <;> rfl), by (with_reducible repeat (first | apply Kd.R_alloc | apply Kd.R_drewN | apply Kd.R_drew)); exact HO_0.out, by repeat (first | (with_reducible first | exact HB.out | apply below_alloc | apply pw_below_drewN | apply below_drew1) | exact HB.out), by repeat (first | (with_reducible first | exact HK.out | apply Kept.alloc | apply Kept.drewN | apply Kept.drew) | exact HK.out)⟩

open Go.Proofs.YtkghgjehjchajaaW Go.Proofs.YtkghgjehjchajaaW.PrintHand Go.Proofs.YtkghgjehjchajaaW.PrintHx
/-! ### impl_Root_pointers: function 72 -/
def impl_Root_pointers.f (a0 : List Int) : Option (List Int) := if a0.length = 15 then some (seg a0 1 14) else none
def impl_Root_pointers.T1 : Bool × List (List Nat × List Nat) := (true, [([], []), ([], []), ([1], [1]), ([0, 2], [0, 2]), ([], []), ([4], [4]), ([], []), ([6], [6]), ([5, 7], [5, 7]), ([3, 8, 3], [3, 8]), ([9, 9, 0, 1, 2, 3, 4, 5, 6, 7, 8, 9], [9])])
def impl_Root_pointers.B1 : List Nat := [0, 0, 2, 7, 0, 16, 0, 64, 240, 511, 1023]
theorem impl_Root_pointers.tab1 : rtab .any (opsOf Try.f72 1) = impl_Root_pointers.T1 := by kernel_rfl
theorem impl_Root_pointers.bits1 : waitsOk impl_Root_pointers.T1.2 impl_Root_pointers.B1 = true := by kernel_rfl
set_option maxHeartbeats 8000000 in
set_option maxRecDepth 100000 in
theorem impl_Root_pointers.calls (a0 : List Int) (n0 : a0.length = 15) (r : List Int) (w : World) (h : impl_Root_pointers.f a0 = some r) :
    Calls Try.prog 72 #[.agg (nums .i64 a0).toArray] w fun e w' => ∃ v0_ : Value, e = .returned (v0_) ∧ Kd.R (Kd.int .i64) 3 w' w.heap.size (fun _ => True) v0_ r ∧ Below w.heap.size w w' := by
  unfold impl_Root_pointers.f at h
  rw [if_pos n0] at h
  obtain rfl := Option.some.inj h
  have N_ := Aside0.mk n0
  clear n0 h
  have info3_ : (Try.prog.info? 3).map (fun i => (i.zero, i.size, i.bytes)) = some (some (.int .i64 0), 1, 8) := by kernel_rfl
  have hu22 := Try.underlying22
  have HB0 : Aside0 (Below w.heap.size w w) := ⟨Below.refl _ _⟩
  obtain ⟨s0, Sz0⟩ : ∃ s0, Aside0 (w.heap.size = s0) := ⟨_, ⟨rfl⟩⟩
  have hw0 : w.heap.size ≤ s0 := Nat.le_of_eq Sz0.out
  have hw1 : s0 ≤ w.heap.size := Nat.le_of_eq Sz0.out.symm
  go_enter Try.func72, Try.ntmps72
  go_wp2_with (first | ((with_reducible refine gate_dst (N := 1) rfl ?_); refine hx_box rfl 1 rfl 28 (.tmp 0) rfl Sz0 (.agg (nums .i64 a0).toArray) (nums .i64 a0).toArray rfl rfl ?_; intro w1 s1 L1 Sz1 b1 g_; have H0 := Aside0.mk g_; have HB1 := Aside0.mk (below_then HB0.out HB0.out.size b1); clear g_ HB0 b1))
  have HB := HB1
  have FV := HB1
  refine start_ (n := 11) (S := fun w' => True) (ds := []) #[false, false, false, false, false, false, false, false, false, false, false] (by kernel_rfl) rfl rfl trivial (fun hHeld => ?_)
  refine with_tabW impl_Root_pointers.tab1 impl_Root_pointers.bits1 (fun HT_ HW_ => ?_)
  refine pure_ (i := 1) (N := some 4) (v := ?_) (a' := ?_) #[false, true, false, false, false, false, false, false, false, false, false] rfl rfl (any_of HT_.out (by kernel_rfl)) (fun _ _ _ h => h) (Or.inl ⟨by rfl, ?_⟩) ?_ ?_
  rotate_left
  · intro w'
    go_simp
    with_reducible rfl
  rotate_left
  · simp only [Act.put, List.setIfInBounds_toArray, List.set_cons_zero, List.set_cons_succ, i64_w, i32_w]
    rfl
  refine pure_ (i := 2) (N := some 5) (v := ?_) (a' := ?_) #[false, true, true, false, false, false, false, false, false, false, false] rfl rfl (any_of HT_.out (by kernel_rfl)) (fun _ _ _ h => h) (Or.inl ⟨by rfl, ?_⟩) ?_ ?_
  rotate_left
  · intro w'
    go_simp
    with_reducible rfl
  rotate_left
  · simp only [Act.put, List.setIfInBounds_toArray, List.set_cons_zero, List.set_cons_succ, i64_w, i32_w]
    rfl
  refine pure_ (i := 4) (N := some 7) (v := ?_) (a' := ?_) #[false, true, true, false, true, false, false, false, false, false, false] rfl rfl (any_of HT_.out (by kernel_rfl)) (fun _ _ _ h => h) (Or.inl ⟨by rfl, ?_⟩) ?_ ?_
  rotate_left
  · intro w'
    go_simp
    with_reducible rfl
  rotate_left
  · simp only [Act.put, List.setIfInBounds_toArray, List.set_cons_zero, List.set_cons_succ, i64_w, i32_w]
    rfl
  refine pure_ (i := 6) (N := some 9) (v := ?_) (a' := ?_) #[false, true, true, false, true, false, true, false, false, false, false] rfl rfl (any_of HT_.out (by kernel_rfl)) (fun _ _ _ h => h) (Or.inl ⟨by rfl, ?_⟩) ?_ ?_
  rotate_left
  · intro w'
    go_simp
    with_reducible rfl
  rotate_left
  · simp only [Act.put, List.setIfInBounds_toArray, List.set_cons_zero, List.set_cons_succ, i64_w, i32_w]
    rfl
  refine inv_at [0, 3, 5, 7, 8, 9, 10] (fun a0_ b a w' => ∃ (v0 : Value) (v3 : Value) (v8 : Value) (v9 : Value) (m10_ : Value), a = putSel a0_ b [(0, 3, v0), (3, 6, v3), (5, 8, .int .i64 (a0.getD 13 0)), (7, 10, .int .i64 (a0.getD 14 0)), (8, 11, v8), (9, 12, v9), (10, 2, m10_)] ∧ (Below w.heap.size w w') ∧ (w'.heap[s0]? = some (.cells (nums .i64 a0).toArray 28 (0, 0))) ∧ (∀ k, (v0 : Value).ownBlock = some k → k < w'.heap.size) ∧ (b 0 = true → b 3 = false → Kd.R (Kd.int .i64) 3 w' w.heap.size (fun k => k ≠ s0) v0 []) ∧ (b 3 = true → b 9 = false → Kd.R (Kd.int .i64) 3 w' w.heap.size (fun k => k ≠ s0) v3 ([] ++ seg a0 1 12)) ∧ (b 8 = true → b 9 = false → Kd.R (Kd.int .i64) 3 w' w.heap.size (fun k => k ≠ s0 ∧ some k ≠ (v0 : Value).ownBlock) v8 [a0.getD 13 0, a0.getD 14 0]) ∧ (b 9 = true → Kd.R (Kd.int .i64) 3 w' w.heap.size (fun k => k ≠ s0) v9 (([] ++ seg a0 1 12) ++ [a0.getD 13 0, a0.getD 14 0])) ∧ (b 10 = true → (m10_ : Value) = v9)) HT_.out HW_.out (by kernel_rfl) (by kernel_rfl) ?_ ?_ ?_
  · exact ⟨.bool false, .bool false, .bool false, .bool false, .bool false, by simp only [putSel, Bool.false_eq_true, if_false], HB1.out.drew, blk_drew H0.out, fun k h_ => by simp [Value.ownBlock] at h_, fun h_ => absurd h_ (by decide), fun h_ => absurd h_ (by decide), fun h_ => absurd h_ (by decide), fun h_ => absurd h_ (by decide), fun h_ => absurd h_ (by decide)⟩
  · skip
    clear FV H0 HB
    refine steps_cons ?_ ?_
    · rintro b a w' ⟨v0, v3, v8, v9, m10_, ha, Q_HB, Q_H0, Q_FV, Q_F0, Q_F3, Q_F8, Q_F9, Q_X10_⟩ hb_ hon hoff
      refine ⟨_, rfl, fun K hK => ?_⟩
      replace ha := Aside0.mk ha
      have HB := Aside0.mk Q_HB
      have H0 := Aside0.mk Q_H0
      have FV := Aside0.mk Q_FV
      refine Kd.R_lit_step (Kd.int .i64) (w0 := w) w.heap.size 3 (by rfl) (N := 3) rfl (xs := ([] : List Int)) (inner := []) (ok := fun k => k ≠ s0) (okp := fun _ => False) ?hr (Reps.none _ _) (fun _ h_ => h_.elim) (by have := blk_lt H0.out; omega) HB.out HB.out.size (by simp) ?_
      (case hr => first | (go_simp; done) | (go_simp; rfl))
      intro v_ w_ ho hb hg_ hn_
      refine hK.out _ _ ⟨v_, v3, v8, v9, m10_, (by rw [ha.out]; exact putSel_upk 0 hb_ rfl rfl rfl), hb, blk_grown H0.out hg_ (by simp), Kd.R_lt ho, fun _ _ => ho, fun h0_ _ => absurd ((hoff 3 (by kernel_rfl)).symm.trans h0_) (by decide), fun h0_ h1_ => Kd.R_mono (Kd.R_grown (Kd.R_bound (Q_F8 h0_ h1_)) hg_ (fun _ _ => by simp)) (fun k hk => ⟨hk.1.1, fun e_ => by obtain ⟨b_, h1_, h2_⟩ := hn_; rw [h1_] at e_; injection e_ with e_; have := hk.2.2.1; omega⟩), fun h0_ => absurd ((hoff 9 (by kernel_rfl)).symm.trans h0_) (by decide), fun h0_ => absurd ((hoff 10 (by kernel_rfl)).symm.trans h0_) (by decide)⟩
    refine steps_cons ?_ ?_
    · rintro b a w' ⟨v0, v3, v8, v9, m10_, ha, Q_HB, Q_H0, Q_FV, Q_F0, Q_F3, Q_F8, Q_F9, Q_X10_⟩ hb_ hon hoff
      refine ⟨_, rfl, fun K hK => ?_⟩
      have e3 : a.tmps[3]? = some (v0) := by rw [ha]; exact putSel_on (e := (0, 3, v0)) 0 rfl rfl (hon 0 (by kernel_rfl)) rfl
      have e5 : a.tmps[5]? = some (.slice (some ⟨s0, 1, none⟩) 12 12) := by rw [ha]; exact (putSel_off rfl).trans rfl
      replace ha := Aside0.mk ha
      have HB := Aside0.mk Q_HB
      have H0 := Aside0.mk Q_H0
      have FV := Aside0.mk Q_FV
      have F0 := Aside0.mk (Q_F0 (hon 0 (by kernel_rfl)) hb_)
      refine Kd.R_append_rows_step (Kd.int .i64) (w0 := w) w.heap.size (by rfl) (.tmp 3) (.tmp 5) 82 3 (.int .i64 0) 8 rfl Try.underlying82 info3_ rfl (by decide) (by omega) v0 [] (seg a0 1 12) (some ⟨s0, 1, none⟩) 12 12 (fun k => k ≠ s0) (fun _ => False) (eval_of e3) (eval_of e5) F0.out (part_reads H0.out 1 12 (le_len (n := 15) N_.out (by decide)) (by decide)) (fun _ _ h => h) (fun _ h => h.elim) (fun k hk => by have := blk_lt H0.out; omega) HB.out HB.out.size (by decide) ?_
      intro v_ w_ ho hb hg_ hn_
      refine hK.out _ _ ⟨v0, v_, v8, v9, m10_, (by rw [ha.out]; exact putSel_upk 1 hb_ rfl rfl rfl), hb, blk_grown H0.out hg_ (fun e_ => (F0.out.1 s0 e_.symm) rfl), fun k hk => Nat.lt_of_lt_of_le (FV.out k hk) hg_.size, fun _ h1_ => absurd ((up_self b 3).symm.trans h1_) (by decide), fun _ _ => ho, fun h0_ h1_ => Kd.R_grown (Q_F8 h0_ h1_) hg_ (fun k hk => hk.2), fun h0_ => absurd ((hoff 9 (by kernel_rfl)).symm.trans h0_) (by decide), fun h0_ => absurd ((hoff 10 (by kernel_rfl)).symm.trans h0_) (by decide)⟩
    refine steps_cons ?_ ?_
    · rintro b a w' ⟨v0, v3, v8, v9, m10_, ha, Q_HB, Q_H0, Q_FV, Q_F0, Q_F3, Q_F8, Q_F9, Q_X10_⟩ hb_ hon hoff
      refine ⟨_, rfl, fun K hK => ?_⟩
      have e7 : a.tmps[7]? = some (.pointer (some ⟨s0, 13, none⟩)) := by rw [ha]; exact (putSel_off rfl).trans rfl
      replace ha := Aside0.mk ha
      have HB := Aside0.mk Q_HB
      have H0 := Aside0.mk Q_H0
      have FV := Aside0.mk Q_FV
      have c_ := row_cell H0.out 13 (lt_len (n := 15) N_.out (by decide))
      refine value_ (w1 := w') (v := .int .i64 (a0.getD 13 0)) (by rfl) rfl ?_ ?_
      · go_simp
        (try simp only [i64_w])
        try rfl
      refine hK.out _ _ ⟨v0, v3, v8, v9, m10_, (by rw [ha.out]; exact putSel_upk 2 hb_ rfl rfl rfl), Q_HB, Q_H0, Q_FV, Q_F0, Q_F3, fun h0_ _ => absurd ((hoff 8 (by kernel_rfl)).symm.trans h0_) (by decide), fun h0_ => absurd ((hoff 9 (by kernel_rfl)).symm.trans h0_) (by decide), fun h0_ => absurd ((hoff 10 (by kernel_rfl)).symm.trans h0_) (by decide)⟩
    refine steps_cons ?_ ?_
    · rintro b a w' ⟨v0, v3, v8, v9, m10_, ha, Q_HB, Q_H0, Q_FV, Q_F0, Q_F3, Q_F8, Q_F9, Q_X10_⟩ hb_ hon hoff
      refine ⟨_, rfl, fun K hK => ?_⟩
      have e9 : a.tmps[9]? = some (.pointer (some ⟨s0, 14, none⟩)) := by rw [ha]; exact (putSel_off rfl).trans rfl
      replace ha := Aside0.mk ha
      have HB := Aside0.mk Q_HB
      have H0 := Aside0.mk Q_H0
      have FV := Aside0.mk Q_FV
      have c_ := row_cell H0.out 14 (lt_len (n := 15) N_.out (by decide))
      refine value_ (w1 := w') (v := .int .i64 (a0.getD 14 0)) (by rfl) rfl ?_ ?_
      · go_simp
        (try simp only [i64_w])
        try rfl
      refine hK.out _ _ ⟨v0, v3, v8, v9, m10_, (by rw [ha.out]; exact putSel_upk 3 hb_ rfl rfl rfl), Q_HB, Q_H0, Q_FV, Q_F0, Q_F3, fun h0_ _ => absurd ((hoff 8 (by kernel_rfl)).symm.trans h0_) (by decide), fun h0_ => absurd ((hoff 9 (by kernel_rfl)).symm.trans h0_) (by decide), fun h0_ => absurd ((hoff 10 (by kernel_rfl)).symm.trans h0_) (by decide)⟩
    refine steps_cons ?_ ?_
    · rintro b a w' ⟨v0, v3, v8, v9, m10_, ha, Q_HB, Q_H0, Q_FV, Q_F0, Q_F3, Q_F8, Q_F9, Q_X10_⟩ hb_ hon hoff
      refine ⟨_, rfl, fun K hK => ?_⟩
      have e8 : a.tmps[8]? = some (.int .i64 (a0.getD 13 0)) := by rw [ha]; exact putSel_on (e := (5, 8, .int .i64 (a0.getD 13 0))) 2 rfl rfl (hon 5 (by kernel_rfl)) rfl
      have e10 : a.tmps[10]? = some (.int .i64 (a0.getD 14 0)) := by rw [ha]; exact putSel_on (e := (7, 10, .int .i64 (a0.getD 14 0))) 3 rfl rfl (hon 7 (by kernel_rfl)) rfl
      replace ha := Aside0.mk ha
      have HB := Aside0.mk Q_HB
      have H0 := Aside0.mk Q_H0
      have FV := Aside0.mk Q_FV
      refine Kd.R_lit_step (Kd.int .i64) (w0 := w) w.heap.size 3 (by rfl) (N := 11) rfl (xs := ([a0.getD 13 0, a0.getD 14 0] : List Int)) (inner := (nums .i64 [a0.getD 13 0, a0.getD 14 0])) (ok := fun k => k ≠ s0 ∧ some k ≠ (v0 : Value).ownBlock) (okp := fun _ => False) ?hr (reps_ints _) (fun _ h_ => h_.elim) ⟨by have := blk_lt H0.out; omega, fun e_ => Nat.lt_irrefl _ (FV.out _ e_.symm)⟩ HB.out HB.out.size (by simp) ?_
      (case hr => first | (go_simp; done) | (go_simp; rfl))
      intro v_ w_ ho hb hg_ hn_
      refine hK.out _ _ ⟨v0, v3, v_, v9, m10_, (by rw [ha.out]; exact putSel_upk 4 hb_ rfl rfl rfl), hb, blk_grown H0.out hg_ (by simp), fun k hk => Nat.lt_of_lt_of_le (FV.out k hk) hg_.size, fun h0_ h1_ => Kd.R_grown (Q_F0 h0_ h1_) hg_ (fun _ _ => by simp), fun h0_ h1_ => Kd.R_grown (Q_F3 h0_ h1_) hg_ (fun _ _ => by simp), fun _ _ => ho, fun h0_ => absurd ((hoff 9 (by kernel_rfl)).symm.trans h0_) (by decide), fun h0_ => absurd ((hoff 10 (by kernel_rfl)).symm.trans h0_) (by decide)⟩
    refine steps_cons ?_ ?_
    · rintro b a w' ⟨v0, v3, v8, v9, m10_, ha, Q_HB, Q_H0, Q_FV, Q_F0, Q_F3, Q_F8, Q_F9, Q_X10_⟩ hb_ hon hoff
      refine ⟨_, rfl, fun K hK => ?_⟩
      have e6 : a.tmps[6]? = some (v3) := by rw [ha]; exact putSel_on (e := (3, 6, v3)) 1 rfl rfl (hon 3 (by kernel_rfl)) rfl
      have e11 : a.tmps[11]? = some (v8) := by rw [ha]; exact putSel_on (e := (8, 11, v8)) 4 rfl rfl (hon 8 (by kernel_rfl)) rfl
      replace ha := Aside0.mk ha
      have HB := Aside0.mk Q_HB
      have H0 := Aside0.mk Q_H0
      have FV := Aside0.mk Q_FV
      have F3 := Aside0.mk (Q_F3 (hon 3 (by kernel_rfl)) hb_)
      have F8 := Aside0.mk (Q_F8 (hon 8 (by kernel_rfl)) hb_)
      obtain ⟨A8_, c8_, q8_⟩ := Kd.R_slice F8.out
      have F8' := F8.out
      rw [q8_] at F8'
      refine Kd.R_append_rows_step (Kd.int .i64) (w0 := w) w.heap.size (by rfl) (.tmp 6) (.tmp 11) 82 3 (.int .i64 0) 8 rfl Try.underlying82 info3_ rfl (by decide) (by omega) v3 ([] ++ seg a0 1 12) [a0.getD 13 0, a0.getD 14 0] _ _ _ (fun k => k ≠ s0) (fun _ => False) (eval_of e6) ((eval_of e11).trans q8_) F3.out (Kd.R_reads' F8').2.2 (fun _ _ h => h) (fun _ h => h.elim) (fun k hk => by have := blk_lt H0.out; omega) HB.out HB.out.size (by rw [List.nil_append, part_len (n := 15) N_.out (by decide)]; show (12 + 2) * 8 ≤ 140737488355328; decide) ?_
      intro v_ w_ ho hb hg_ hn_
      refine hK.out _ _ ⟨v0, v3, v8, v_, m10_, (by rw [ha.out]; exact putSel_upk 5 hb_ rfl rfl rfl), hb, blk_grown H0.out hg_ (fun e_ => (F3.out.1 s0 e_.symm) rfl), fun k hk => Nat.lt_of_lt_of_le (FV.out k hk) hg_.size, fun _ h1_ => absurd ((hon 3 (by kernel_rfl)).symm.trans h1_) (by decide), fun _ h1_ => absurd ((up_self b 9).symm.trans h1_) (by decide), fun _ h1_ => absurd ((up_self b 9).symm.trans h1_) (by decide), fun _ => ho, fun h0_ => absurd ((hoff 10 (by kernel_rfl)).symm.trans h0_) (by decide)⟩
    refine steps_cons ?_ ?_
    · rintro b a w' ⟨v0, v3, v8, v9, m10_, ha, Q_HB, Q_H0, Q_FV, Q_F0, Q_F3, Q_F8, Q_F9, Q_X10_⟩ hb_ hon hoff
      refine ⟨_, rfl, fun K hK => ?_⟩
      have e12 : a.tmps[12]? = some (v9) := by rw [ha]; exact putSel_on (e := (9, 12, v9)) 5 rfl rfl (hon 9 (by kernel_rfl)) rfl
      replace ha := Aside0.mk ha
      have HB := Aside0.mk Q_HB
      have H0 := Aside0.mk Q_H0
      have FV := Aside0.mk Q_FV
      have F9 := Aside0.mk (Q_F9 (hon 9 (by kernel_rfl)))
      refine value_ (w1 := w') (v := v9) (by rfl) rfl ?_ ?_
      · go_simp
        (try simp only [i64_w])
        try rfl
      refine hK.out _ _ ⟨v0, v3, v8, v9, (v9), (by rw [ha.out]; exact putSel_upk 6 hb_ rfl rfl rfl), Q_HB, Q_H0, Q_FV, fun _ h1_ => absurd ((hon 3 (by kernel_rfl)).symm.trans h1_) (by decide), fun _ h1_ => absurd ((hon 9 (by kernel_rfl)).symm.trans h1_) (by decide), fun _ h1_ => absurd ((hon 9 (by kernel_rfl)).symm.trans h1_) (by decide), Q_F9, fun _ => rfl⟩
    exact steps_nil
  · rintro b a w' hall ⟨v0, v3, v8, v9, m10_, ha, Q_HB, Q_H0, Q_FV, Q_F0, Q_F3, Q_F8, Q_F9, Q_X10_⟩
    clear FV H0 HB
    have hb0_ := hall 0 (by kernel_rfl)
    have hb3_ := hall 3 (by kernel_rfl)
    have hb5_ := hall 5 (by kernel_rfl)
    have hb7_ := hall 7 (by kernel_rfl)
    have hb8_ := hall 8 (by kernel_rfl)
    have hb9_ := hall 9 (by kernel_rfl)
    have hb10_ := hall 10 (by kernel_rfl)
    subst ha
    obtain rfl := Q_X10_ hb10_
    simp only [putSel, hb0_, hb3_, hb5_, hb7_, hb8_, hb9_, hb10_, if_true, Act.put, List.setIfInBounds_toArray, List.set_cons_zero, List.set_cons_succ]
    have HB := Aside0.mk Q_HB
    clear Q_HB
    have H0 := Aside0.mk Q_H0
    clear Q_H0
    have FV := Aside0.mk Q_FV
    clear Q_FV
    clear Q_F0
    clear Q_F3
    clear Q_F8
    have F9 := Aside0.mk (Q_F9 hb9_)
    clear Q_F9
    clear hall hb0_ hb3_ hb5_ hb7_ hb8_ hb9_ hb10_
    go_wp2
    go_ret
    have ho := F9.out
    rw [pointers_of a0 N_.out] at ho
    exact ⟨_, rfl, Kd.R_mono ho (fun _ _ => trivial), HB.out⟩

end Go.Proofs.Ytkghgjehjchajaa.PFnExactEncodeTable
