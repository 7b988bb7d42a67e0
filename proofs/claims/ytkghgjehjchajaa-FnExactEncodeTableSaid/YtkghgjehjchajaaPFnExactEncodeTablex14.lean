-- Written by a program of this session (patch_print.py over the kit print)
import Derived.Test.YtkghgjehjchajaaPFnExactEncodeTablex0
import Derived.Test.YtkghgjehjchajaaPFnExactEncodeTablex1
import Derived.Test.YtkghgjehjchajaaPFnExactEncodeTablex7
import Derived.Test.YtkghgjehjchajaaPFnExactEncodeTablex8
import Derived.Test.YtkghgjehjchajaaPFnExactEncodeTablex13
namespace Go.Proofs.Ytkghgjehjchajaa.PFnExactEncodeTable
open Go.RowKit Go.Proofs.YtkghgjehjchajaaW.PrintWords Go.Proofs.YtkghgjehjchajaaW.PrintLast Go.Proofs.YtkghgjehjchajaaW.PrintMore
attribute [local go_sem] max2_int min2_int max_two min_two max_three min_three max_four min_four   -- for this text's walks alone
set_option linter.unusedVariables false
set_option linter.unusedSimpArgs false

open Go.Proofs.YtkghgjehjchajaaW Go.Proofs.YtkghgjehjchajaaW.PrintHand Go.Proofs.YtkghgjehjchajaaW.PrintHx
/-! ### laws_eqInodeS: function 31 -/
def laws_eqInodeS.f (l0 l1 : List (List Int)) : Option Bool := if l0 = l1 then some true else none
set_option maxHeartbeats 8000000 in
set_option maxRecDepth 100000 in
theorem laws_eqInodeS.calls (A0 : Option Addr) (c0 : Nat) (l0 : List (List Int)) (A1 : Option Addr) (c1 : Nat) (l1 : List (List Int)) (r : Bool) (w : World) (hr0 : Kd.C (PrintHx.wide 24) w A0 l0.length l0) (hc0 : l0.length ≤ c0) (hr1 : Kd.C (PrintHx.wide 24) w A1 l1.length l1) (hc1 : l1.length ≤ c1) (h : laws_eqInodeS.f l0 l1 = some r) :
    Calls Try.prog 31 #[.slice A0 l0.length c0, .slice A1 l1.length c1] w fun e w' => e = .returned (.bool r) ∧ Below w.heap.size w w' := by
  unfold laws_eqInodeS.f at h
  by_cases he : l0 = l1
  case neg => rw [if_neg he] at h; cases h
  rw [if_pos he] at h
  obtain rfl := Option.some.inj h
  subst he
  have HR0 := Aside0.mk hr0
  have HR1 := Aside0.mk hr1
  have HM := Aside0.mk (show l0.length ≤ 9223372036854775807 from hr0.2.1)
  clear hr0 hc0 hr1 hc1 h
  have hn_ : ((l0.length : Int) != (l0.length : Int)) = false := by simp
  go_enter Try.func31, Try.ntmps31
  go_wp2
  go_loopw [5] (fun v5 wr => ∃ j : Nat, v5 = .int .i64 (j : Int) ∧ Aside0 (j ≤ l0.length) ∧ Aside0 (Below w.heap.size w wr)) (fun v5 _ => l0.length - (intOf v5).toNat)
  case atStart => exact ⟨0, rfl, ⟨Nat.zero_le _⟩, ⟨Below.refl _ _⟩⟩
  case round =>
    obtain ⟨j, rfl, hj, HB⟩ := hrel
    by_cases c9 : j < l0.length
    · have c9b0 : decide ((j : Int) < (l0.length : Int)) = true := decide_eq_true (by omega)
      have c9b1 : decide (j < l0.length) = true := decide_eq_true c9
      obtain ⟨ad, ea, hl, hc⟩ := wide_at (Kd.C_below HR0.out HB.out) j c9
      subst ea
      obtain ⟨ad1, ea1, hl1, hc1⟩ := wide_at (Kd.C_below HR1.out HB.out) j c9
      subst ea1
      obtain ⟨x, hx⟩ : ∃ x, x = l0.getD j [] := ⟨_, rfl⟩
      rw [← hx] at hl hc hc1
      have HL := Aside0.mk hl
      have HC := Aside0.mk hc
      have HC1 := Aside0.mk hc1
      clear hx hl hc hc1 hl1
      have q3 : ((j : Int) < (l0.length : Int)) = True := eq_true (by omega)
      have q4 : (0 ≤ (j : Int)) = True := eq_true (by omega)
      have q5 : (j < l0.length) = True := eq_true c9
      have C9 := Aside0.mk c9
      clear c9
      go_wp2
      refine PrintQTail.wp_region_quiet_tail 8 (by kernel_rfl) (by kernel_rfl) ?_
      simp only [List.take_succ_cons, List.take_zero, List.drop_succ_cons, List.drop_zero]
      quiet_step (fail)
      quiet_step (fail)
      quiet_step (fail)
      refine quiet_load_at rfl 42 (.tmp 19) rfl (ad.add (j * 24)) rfl x 24 Try.underlying42 rfl (by kernel_rfl) HL.out (fun i hi => by rw [Addr.add_add]; exact HC.out i hi) ?_
      quiet_step (fail)
      quiet_step (fail)
      quiet_step (fail)
      refine quiet_load_at rfl 42 (.tmp 23) rfl (ad1.add (j * 24)) rfl x 24 Try.underlying42 rfl (by kernel_rfl) HL.out (fun i hi => by rw [Addr.add_add]; exact HC1.out i hi) ?_
      refine wpQuiet_nil ?_
      intro w_ hw_
      obtain ⟨nq, rfl⟩ := hw_
      go_wp2_with (first | ((with_reducible refine gate_dst (N := 25) rfl ?_); refine goesL_ (some 25) rfl rfl Try.func26 (by kernel_rfl) rfl #[.agg (nums .i64 x).toArray, .agg (nums .i64 x).toArray] rfl (by (try simp only [List.map_toArray, List.map_cons, List.map_nil]); first | done | rfl) ?_; refine (laws_eqInode.calls _ HL.out _ HL.out _ _ (if_pos rfl)).mono ?_; rintro e_ w2 ⟨rfl, b2⟩; refine ⟨_, rfl, ?_⟩; have HB4 := Aside0.mk (below_then (pw_below_drewN HB.out nq) (pw_below_drewN HB.out nq).size b2); clear b2 HB))
      go_roundw
      case rel => exact ⟨j + 1, by rw [show wrap64 ((j : Int) + 1) = ((j + 1 : Nat) : Int) by (have := HM.out; have := C9.out; unfold wrap64; omega)], ⟨by have := C9.out; omega⟩, HB4⟩
      case measure =>
        rw [show wrap64 ((j : Int) + 1) = ((j + 1 : Nat) : Int) by (have := HM.out; have := C9.out; unfold wrap64; omega)]
        simp only [intOf, Int.toNat_natCast]
        have := C9.out
        omega
    · have c9b0 : decide ((j : Int) < (l0.length : Int)) = false := decide_eq_false (by omega)
      have c9b1 : decide (j < l0.length) = false := decide_eq_false c9
      go_wp2
      go_ret
      exact ⟨rfl, HB.out⟩

open Go.Proofs.YtkghgjehjchajaaW Go.Proofs.YtkghgjehjchajaaW.PrintHand Go.Proofs.YtkghgjehjchajaaW.PrintHx
/-! ### laws_markInodeS: function 32 -/
open Go.Proofs.YtkghgjehjchajaaW.PrintTabl Go.Proofs.YtkghgjehjchajaaW.PrintTab2
theorem mk_base {b : List (List Int)} {x : List Int} {j : Nat} (kk : Nat) (hj : j < b.length) (hx : x = b.getD j []) : b.set j (mkRow x kk 0) = b := by
  rw [mkRow_zero, hx, List.getD_eq_getElem?_getD, List.getElem?_eq_getElem hj]
  simp
theorem mk_step {b : List (List Int)} {x : List Int} {j kk f : Nat} {v : Nat} (hj : j < b.length) (hf : f < x.length) (hv : v = kk + f) : (b.set j (mkRow x kk f)).set j (((b.set j (mkRow x kk f)).getD j []).set f ((v : Nat) : Int)) = b.set j (mkRow x kk (f + 1)) := by
  subst hv
  have e : (b.set j (mkRow x kk f)).getD j [] = mkRow x kk f := by
    rw [List.getD_eq_getElem?_getD, List.getElem?_set_self hj]
    rfl
  rw [e, mkRow_set hf, List.set_set]
theorem hx_putm {P : Program} {ops : Array Oper} {rest : List Oper} {o : Oper} {a : Act} {w : World} {Q : Exit → Act → World → Prop} {n : Nat} {w0 : World} (base : Nat) (hN : o.dst = none) (hgd : o.guard = none) (t : TypeId) (p x : Operand) (ho : o.op = .store t p x) (e : TypeId) {g m cap off : Nat} (j f : Nat) (xs : List (List Int)) (v : Int) (ok : Nat → Prop)
    (haddr : a.eval p = .pointer (some ⟨g, off, none⟩)) (hoff : off = j * n + f) (hx : a.eval x = .int .i64 v) (ht : (P.info? t).map (·.size) = some 1) (hf : f < n) (hm : m = xs.length)
    (HO : (PrintHx.wide n).R e w base ok (.slice (some ⟨g, 0, none⟩) m cap) xs) (hj : j < xs.length) (HB : Below base w0 w)
    (h : ∀ w1, (PrintHx.wide n).R e w1 base ok (.slice (some ⟨g, 0, none⟩) m cap) (xs.set j ((xs.getD j []).set f v)) → Below base w0 w1 → w.grownBy w1 (some g) → wpList P ops Q rest a w1) : wpList P ops Q (o :: rest) a w := by
  subst hm
  exact hx_putf base hN hgd t p x ho e j f xs v ok haddr hoff hx ht hf HO hj HB h
def laws_markInodeS.f (l0 : List (List Int)) (a1 : Int) : Option (Int × List (List Int)) := if a1 = 1 ∧ l0.length ≤ 1048576 then some (((1 + 24 * l0.length : Nat) : Int), marks 1 l0.length) else none
set_option maxHeartbeats 8000000 in
set_option maxRecDepth 100000 in
theorem laws_markInodeS.calls (P0_ : Nat → Prop) (u9000_ : Value) (l0 : List (List Int)) (a1 : Int) (r1 : Int) (r2 : List (List Int)) (w0 w : World) (hB : Below w0.heap.size w0 w) (ho0 : Kd.R (PrintHx.wide 24) 42 w w0.heap.size P0_ u9000_ l0) (h : laws_markInodeS.f l0 a1 = some (r1, r2)) :
    Calls Try.prog 32 #[u9000_, .int .i64 a1] w fun e w' => e = .returned (.int .i64 r1) ∧ Kd.R (PrintHx.wide 24) 42 w' w0.heap.size (fun k_ => (P0_ k_ ∨ w.heap.size ≤ k_)) u9000_ r2 ∧ Below w0.heap.size w0 w' ∧ Kept w w' (fun k_ => P0_ k_) := by
  unfold laws_markInodeS.f at h
  by_cases hd : a1 = 1 ∧ l0.length ≤ 1048576
  case neg => rw [if_neg hd] at h; cases h
  rw [if_pos hd] at h
  simp only [Option.some.injEq, Prod.mk.injEq] at h
  obtain ⟨rfl, rfl⟩ := h
  obtain rfl := hd.1
  have HLEN := Aside0.mk hd.2
  have HW : Aside0 (∀ x ∈ l0, x.length = 24) := by
    obtain ⟨A_, c_, e_⟩ := Kd.R_slice ho0
    rw [e_] at ho0
    exact ⟨wide_len (Kd.R_reads' ho0).2.2⟩
  have HO := Aside0.mk (show Kd.R (PrintHx.wide 24) 42 w w0.heap.size (fun k_ => (P0_ k_ ∨ w.heap.size ≤ k_)) u9000_ l0 from Kd.R_mono ho0 (fun k_ hk => (.inl hk)))
  have HK := Aside0.mk (Kept.refl w (fun k_ => P0_ k_))
  have HB := Aside0.mk hB
  clear hd ho0 hB
  obtain ⟨A0_, c0_, ev_⟩ := Kd.R_slice HO.out
  subst ev_
  go_enter Try.func32, Try.ntmps32
  go_wp2
  (try simp only [Act.put, List.setIfInBounds_toArray, List.set_cons_succ, List.set_cons_zero])
  go_loopw [1, 5, 6] (fun v1 v5 v6 wr => ∃ (j kk : Nat) (u6 : Value), u6 = v6 ∧ v5 = .int .i64 (j : Int) ∧ v1 = .int .i64 (kk : Int) ∧ Aside0 (j ≤ l0.length) ∧ Aside0 (kk = 1 + 24 * j) ∧ Aside0 (Kd.R (PrintHx.wide 24) 42 wr w0.heap.size (fun k_ => (P0_ k_ ∨ w.heap.size ≤ k_)) (.slice A0_ l0.length c0_) (marks 1 j ++ l0.drop j)) ∧ Aside0 (Below w0.heap.size w0 wr) ∧ Aside0 (Kept w wr P0_)) (fun _ v5 _ _ => l0.length - (intOf v5).toNat)
  case atStart => exact ⟨0, 1, _, rfl, rfl, rfl, ⟨Nat.zero_le _⟩, ⟨rfl⟩, HO, HB, HK⟩
  case round =>
    clear HO HB HK
    obtain ⟨j, kk, v6, rfl, rfl, rfl, hj, HKK, HO, HB, HK⟩ := hrel
    by_cases c9 : j < l0.length
    · have c9b0 : decide ((j : Int) < (l0.length : Int)) = true := decide_eq_true (by omega)
      have c9b1 : decide (j < l0.length) = true := decide_eq_true c9
      obtain ⟨b, hb⟩ : ∃ b, b = marks 1 j ++ l0.drop j := ⟨_, rfl⟩
      have hbl : b.length = l0.length := by rw [hb, List.length_append, marks_length, List.length_drop]; omega
      obtain ⟨g, cap, ev, hbg, hlt_, cells, hce⟩ := Kd.R_form HO.out (by rw [← hb, hbl]; omega)
      rw [← hb, hbl] at ev
      obtain ⟨rfl, rfl⟩ : A0_ = some ⟨g, 0, none⟩ ∧ c0_ = cap := by cases ev; exact ⟨rfl, rfl⟩
      clear ev hbg hlt_ hce cells
      obtain ⟨x, hx⟩ : ∃ x, x = b.getD j [] := ⟨_, rfl⟩
      have hxe : x = l0.getD j [] := by rw [hx, hb, List.getD_eq_getElem?_getD, List.getElem?_append_right (by rw [marks_length]; exact Nat.le_refl _), marks_length, Nat.sub_self, List.getElem?_drop, Nat.add_zero, List.getD_eq_getElem?_getD]
      have XL := Aside0.mk (show x.length = 24 by rw [hxe, List.getD_eq_getElem?_getD, List.getElem?_eq_getElem c9]; exact HW.out _ (List.getElem_mem c9))
      have BJ := Aside0.mk (show j < b.length by rw [hbl]; exact c9)
      have BL := Aside0.mk hbl
      have BE := Aside0.mk hb
      have KK := Aside0.mk (show kk ≤ 30000000 by have := HKK.out; have := HLEN.out; omega)
      have HO0 := Aside0.mk (show (PrintHx.wide 24).R 42 wr w0.heap.size (fun k_ => (P0_ k_ ∨ w.heap.size ≤ k_)) (.slice (some ⟨g, 0, none⟩) l0.length c0_) (b.set j (mkRow x kk 0)) by rw [mk_base kk BJ.out hx, hb]; exact HO.out)
      have HB0 := HB
      have HK0 := HK
      obtain ⟨k0, hk0⟩ : ∃ k0, k0 = kk := ⟨_, rfl⟩
      rw [← hk0]
      have F0 := Aside0.mk (show k0 = kk + (0) by omega)
      have q1 : ((j : Int) < (l0.length : Int)) = True := eq_true (by omega)
      have q2 : (j < l0.length) = True := eq_true c9
      have q4 : (0 ≤ (j : Int)) = True := eq_true (by omega)
      have C9 := Aside0.mk c9
      clear hx hxe hbl c9 HO HB HK hk0 hb
      go_wp2_with (first | ((with_reducible refine gate_store (t := 3) (p := 17) (v := .tmp 15) rfl ?_); refine hx_putm (w0 := w0) w0.heap.size rfl rfl 3 (.tmp 17) (.tmp 15) rfl 42 j (0) (b.set j (mkRow x kk (0))) (k0 : Int) (fun k_ => (P0_ k_ ∨ w.heap.size ≤ k_)) rfl (by first | rfl | omega) rfl (by kernel_rfl) (by omega) (by rw [List.length_set]; exact BL.out.symm) HO0.out (by rw [List.length_set]; exact BJ.out) HB0.out ?_; intro w1 ho_ hb_ hg_; have HO1 := Aside0.mk ho_; rw [mk_step BJ.out (by rw [XL.out]; omega) F0.out] at HO1; have HB1 := Aside0.mk hb_; have HK1 := Aside0.mk (Kept.of_grown (S := P0_) hg_ HK0.out (fun k_ e_ => by have h_ := HO0.out.1 k_ e_; exact h_)); clear ho_ hb_ hg_ HO0 HB0 HK0) | ((with_reducible refine gate_dst (N := 19) rfl ?_); refine hx_addn rfl 3 (.tmp 18) _ rfl k0 1 rfl rfl (by have := F0.out; have := KK.out; omega) ?_; intro k1 e_; have F1 := Aside0.mk (show k1 = kk + (1) by have := e_.out; have := F0.out; omega); clear e_) | ((with_reducible refine gate_store (t := 3) (p := 24) (v := .tmp 22) rfl ?_); refine hx_putm (w0 := w0) w0.heap.size rfl rfl 3 (.tmp 24) (.tmp 22) rfl 42 j (1) (b.set j (mkRow x kk (1))) (k1 : Int) (fun k_ => (P0_ k_ ∨ w.heap.size ≤ k_)) rfl (by first | rfl | omega) rfl (by kernel_rfl) (by omega) (by rw [List.length_set]; exact BL.out.symm) HO1.out (by rw [List.length_set]; exact BJ.out) HB1.out ?_; intro w2 ho_ hb_ hg_; have HO2 := Aside0.mk ho_; rw [mk_step BJ.out (by rw [XL.out]; omega) F1.out] at HO2; have HB2 := Aside0.mk hb_; have HK2 := Aside0.mk (Kept.of_grown (S := P0_) hg_ HK1.out (fun k_ e_ => by have h_ := HO1.out.1 k_ e_; exact h_)); clear ho_ hb_ hg_ HO1 HB1 HK1) | ((with_reducible refine gate_dst (N := 26) rfl ?_); refine hx_addn rfl 3 (.tmp 25) _ rfl k1 1 rfl rfl (by have := F1.out; have := KK.out; omega) ?_; intro k2 e_; have F2 := Aside0.mk (show k2 = kk + (2) by have := e_.out; have := F1.out; omega); clear e_) | ((with_reducible refine gate_store (t := 3) (p := 31) (v := .tmp 29) rfl ?_); refine hx_putm (w0 := w0) w0.heap.size rfl rfl 3 (.tmp 31) (.tmp 29) rfl 42 j (2) (b.set j (mkRow x kk (2))) (k2 : Int) (fun k_ => (P0_ k_ ∨ w.heap.size ≤ k_)) rfl (by first | rfl | omega) rfl (by kernel_rfl) (by omega) (by rw [List.length_set]; exact BL.out.symm) HO2.out (by rw [List.length_set]; exact BJ.out) HB2.out ?_; intro w3 ho_ hb_ hg_; have HO3 := Aside0.mk ho_; rw [mk_step BJ.out (by rw [XL.out]; omega) F2.out] at HO3; have HB3 := Aside0.mk hb_; have HK3 := Aside0.mk (Kept.of_grown (S := P0_) hg_ HK2.out (fun k_ e_ => by have h_ := HO2.out.1 k_ e_; exact h_)); clear ho_ hb_ hg_ HO2 HB2 HK2) | ((with_reducible refine gate_dst (N := 33) rfl ?_); refine hx_addn rfl 3 (.tmp 32) _ rfl k2 1 rfl rfl (by have := F2.out; have := KK.out; omega) ?_; intro k3 e_; have F3 := Aside0.mk (show k3 = kk + (3) by have := e_.out; have := F2.out; omega); clear e_) | ((with_reducible refine gate_store (t := 3) (p := 38) (v := .tmp 36) rfl ?_); refine hx_putm (w0 := w0) w0.heap.size rfl rfl 3 (.tmp 38) (.tmp 36) rfl 42 j (3) (b.set j (mkRow x kk (3))) (k3 : Int) (fun k_ => (P0_ k_ ∨ w.heap.size ≤ k_)) rfl (by first | rfl | omega) rfl (by kernel_rfl) (by omega) (by rw [List.length_set]; exact BL.out.symm) HO3.out (by rw [List.length_set]; exact BJ.out) HB3.out ?_; intro w4 ho_ hb_ hg_; have HO4 := Aside0.mk ho_; rw [mk_step BJ.out (by rw [XL.out]; omega) F3.out] at HO4; have HB4 := Aside0.mk hb_; have HK4 := Aside0.mk (Kept.of_grown (S := P0_) hg_ HK3.out (fun k_ e_ => by have h_ := HO3.out.1 k_ e_; exact h_)); clear ho_ hb_ hg_ HO3 HB3 HK3) | ((with_reducible refine gate_dst (N := 40) rfl ?_); refine hx_addn rfl 3 (.tmp 39) _ rfl k3 1 rfl rfl (by have := F3.out; have := KK.out; omega) ?_; intro k4 e_; have F4 := Aside0.mk (show k4 = kk + (4) by have := e_.out; have := F3.out; omega); clear e_) | ((with_reducible refine gate_store (t := 3) (p := 45) (v := .tmp 43) rfl ?_); refine hx_putm (w0 := w0) w0.heap.size rfl rfl 3 (.tmp 45) (.tmp 43) rfl 42 j (4) (b.set j (mkRow x kk (4))) (k4 : Int) (fun k_ => (P0_ k_ ∨ w.heap.size ≤ k_)) rfl (by first | rfl | omega) rfl (by kernel_rfl) (by omega) (by rw [List.length_set]; exact BL.out.symm) HO4.out (by rw [List.length_set]; exact BJ.out) HB4.out ?_; intro w5 ho_ hb_ hg_; have HO5 := Aside0.mk ho_; rw [mk_step BJ.out (by rw [XL.out]; omega) F4.out] at HO5; have HB5 := Aside0.mk hb_; have HK5 := Aside0.mk (Kept.of_grown (S := P0_) hg_ HK4.out (fun k_ e_ => by have h_ := HO4.out.1 k_ e_; exact h_)); clear ho_ hb_ hg_ HO4 HB4 HK4) | ((with_reducible refine gate_dst (N := 47) rfl ?_); refine hx_addn rfl 3 (.tmp 46) _ rfl k4 1 rfl rfl (by have := F4.out; have := KK.out; omega) ?_; intro k5 e_; have F5 := Aside0.mk (show k5 = kk + (5) by have := e_.out; have := F4.out; omega); clear e_) | ((with_reducible refine gate_store (t := 3) (p := 52) (v := .tmp 50) rfl ?_); refine hx_putm (w0 := w0) w0.heap.size rfl rfl 3 (.tmp 52) (.tmp 50) rfl 42 j (5) (b.set j (mkRow x kk (5))) (k5 : Int) (fun k_ => (P0_ k_ ∨ w.heap.size ≤ k_)) rfl (by first | rfl | omega) rfl (by kernel_rfl) (by omega) (by rw [List.length_set]; exact BL.out.symm) HO5.out (by rw [List.length_set]; exact BJ.out) HB5.out ?_; intro w6 ho_ hb_ hg_; have HO6 := Aside0.mk ho_; rw [mk_step BJ.out (by rw [XL.out]; omega) F5.out] at HO6; have HB6 := Aside0.mk hb_; have HK6 := Aside0.mk (Kept.of_grown (S := P0_) hg_ HK5.out (fun k_ e_ => by have h_ := HO5.out.1 k_ e_; exact h_)); clear ho_ hb_ hg_ HO5 HB5 HK5) | ((with_reducible refine gate_dst (N := 54) rfl ?_); refine hx_addn rfl 3 (.tmp 53) _ rfl k5 1 rfl rfl (by have := F5.out; have := KK.out; omega) ?_; intro k6 e_; have F6 := Aside0.mk (show k6 = kk + (6) by have := e_.out; have := F5.out; omega); clear e_) | ((with_reducible refine gate_store (t := 3) (p := 59) (v := .tmp 57) rfl ?_); refine hx_putm (w0 := w0) w0.heap.size rfl rfl 3 (.tmp 59) (.tmp 57) rfl 42 j (6) (b.set j (mkRow x kk (6))) (k6 : Int) (fun k_ => (P0_ k_ ∨ w.heap.size ≤ k_)) rfl (by first | rfl | omega) rfl (by kernel_rfl) (by omega) (by rw [List.length_set]; exact BL.out.symm) HO6.out (by rw [List.length_set]; exact BJ.out) HB6.out ?_; intro w7 ho_ hb_ hg_; have HO7 := Aside0.mk ho_; rw [mk_step BJ.out (by rw [XL.out]; omega) F6.out] at HO7; have HB7 := Aside0.mk hb_; have HK7 := Aside0.mk (Kept.of_grown (S := P0_) hg_ HK6.out (fun k_ e_ => by have h_ := HO6.out.1 k_ e_; exact h_)); clear ho_ hb_ hg_ HO6 HB6 HK6) | ((with_reducible refine gate_dst (N := 61) rfl ?_); refine hx_addn rfl 3 (.tmp 60) _ rfl k6 1 rfl rfl (by have := F6.out; have := KK.out; omega) ?_; intro k7 e_; have F7 := Aside0.mk (show k7 = kk + (7) by have := e_.out; have := F6.out; omega); clear e_) | ((with_reducible refine gate_store (t := 3) (p := 66) (v := .tmp 64) rfl ?_); refine hx_putm (w0 := w0) w0.heap.size rfl rfl 3 (.tmp 66) (.tmp 64) rfl 42 j (7) (b.set j (mkRow x kk (7))) (k7 : Int) (fun k_ => (P0_ k_ ∨ w.heap.size ≤ k_)) rfl (by first | rfl | omega) rfl (by kernel_rfl) (by omega) (by rw [List.length_set]; exact BL.out.symm) HO7.out (by rw [List.length_set]; exact BJ.out) HB7.out ?_; intro w8 ho_ hb_ hg_; have HO8 := Aside0.mk ho_; rw [mk_step BJ.out (by rw [XL.out]; omega) F7.out] at HO8; have HB8 := Aside0.mk hb_; have HK8 := Aside0.mk (Kept.of_grown (S := P0_) hg_ HK7.out (fun k_ e_ => by have h_ := HO7.out.1 k_ e_; exact h_)); clear ho_ hb_ hg_ HO7 HB7 HK7) | ((with_reducible refine gate_dst (N := 68) rfl ?_); refine hx_addn rfl 3 (.tmp 67) _ rfl k7 1 rfl rfl (by have := F7.out; have := KK.out; omega) ?_; intro k8 e_; have F8 := Aside0.mk (show k8 = kk + (8) by have := e_.out; have := F7.out; omega); clear e_) | ((with_reducible refine gate_store (t := 3) (p := 73) (v := .tmp 71) rfl ?_); refine hx_putm (w0 := w0) w0.heap.size rfl rfl 3 (.tmp 73) (.tmp 71) rfl 42 j (8) (b.set j (mkRow x kk (8))) (k8 : Int) (fun k_ => (P0_ k_ ∨ w.heap.size ≤ k_)) rfl (by first | rfl | omega) rfl (by kernel_rfl) (by omega) (by rw [List.length_set]; exact BL.out.symm) HO8.out (by rw [List.length_set]; exact BJ.out) HB8.out ?_; intro w9 ho_ hb_ hg_; have HO9 := Aside0.mk ho_; rw [mk_step BJ.out (by rw [XL.out]; omega) F8.out] at HO9; have HB9 := Aside0.mk hb_; have HK9 := Aside0.mk (Kept.of_grown (S := P0_) hg_ HK8.out (fun k_ e_ => by have h_ := HO8.out.1 k_ e_; exact h_)); clear ho_ hb_ hg_ HO8 HB8 HK8) | ((with_reducible refine gate_dst (N := 75) rfl ?_); refine hx_addn rfl 3 (.tmp 74) _ rfl k8 1 rfl rfl (by have := F8.out; have := KK.out; omega) ?_; intro k9 e_; have F9 := Aside0.mk (show k9 = kk + (9) by have := e_.out; have := F8.out; omega); clear e_) | ((with_reducible refine gate_store (t := 3) (p := 81) (v := .tmp 78) rfl ?_); refine hx_putm (w0 := w0) w0.heap.size rfl rfl 3 (.tmp 81) (.tmp 78) rfl 42 j (9) (b.set j (mkRow x kk (9))) (k9 : Int) (fun k_ => (P0_ k_ ∨ w.heap.size ≤ k_)) rfl (by first | rfl | omega) rfl (by kernel_rfl) (by omega) (by rw [List.length_set]; exact BL.out.symm) HO9.out (by rw [List.length_set]; exact BJ.out) HB9.out ?_; intro w10 ho_ hb_ hg_; have HO10 := Aside0.mk ho_; rw [mk_step BJ.out (by rw [XL.out]; omega) F9.out] at HO10; have HB10 := Aside0.mk hb_; have HK10 := Aside0.mk (Kept.of_grown (S := P0_) hg_ HK9.out (fun k_ e_ => by have h_ := HO9.out.1 k_ e_; exact h_)); clear ho_ hb_ hg_ HO9 HB9 HK9) | ((with_reducible refine gate_dst (N := 83) rfl ?_); refine hx_addn rfl 3 (.tmp 82) _ rfl k9 1 rfl rfl (by have := F9.out; have := KK.out; omega) ?_; intro k10 e_; have F10 := Aside0.mk (show k10 = kk + (10) by have := e_.out; have := F9.out; omega); clear e_))
      (try simp only [Act.put, List.setIfInBounds_toArray, List.set_cons_succ, List.set_cons_zero])
      go_loopw [1, 6] (fun v1 v6 wq => ∃ (jj kq : Nat), v6 = .int .i64 (jj : Int) ∧ v1 = .int .i64 (kq : Int) ∧ Aside0 (jj ≤ 12) ∧ Aside0 (kq = kk + (10 + jj)) ∧ Aside0 ((PrintHx.wide 24).R 42 wq w0.heap.size (fun k_ => (P0_ k_ ∨ w.heap.size ≤ k_)) (.slice (some ⟨g, 0, none⟩) l0.length c0_) (b.set j (mkRow x kk (10 + jj)))) ∧ Aside0 (Below w0.heap.size w0 wq) ∧ Aside0 (Kept w wq P0_)) (fun _ v6 _ => 12 - (intOf v6).toNat)
      case atStart => exact ⟨0, k10, rfl, rfl, ⟨by omega⟩, F10, HO10, HB10, HK10⟩
      case round =>
        clear HO10 HB10 HK10 F10
        obtain ⟨jj, kq, rfl, rfl, hjj, Fq, HOq, HBq, HKq⟩ := hrel
        by_cases c85 : jj < 12
        · have c85b0 : decide ((jj : Int) < 12) = true := decide_eq_true (by omega)
          have c85b1 : decide (jj < 12) = true := decide_eq_true c85
          have q6 : (0 ≤ (jj : Int)) = True := eq_true (by omega)
          have q7 : ((jj : Int) < 12) = True := eq_true (by omega)
          have q8 : (jj < 12) = True := eq_true c85
          go_wp2_with (first | ((with_reducible refine gate_store (t := 3) (p := 95) (v := .tmp 91) rfl ?_); refine hx_putm (w0 := w0) w0.heap.size rfl rfl 3 (.tmp 95) (.tmp 91) rfl 42 j (10 + jj) (b.set j (mkRow x kk (10 + jj))) (kq : Int) (fun k_ => (P0_ k_ ∨ w.heap.size ≤ k_)) rfl (by first | rfl | omega) rfl (by kernel_rfl) (by omega) (by rw [List.length_set]; exact BL.out.symm) HOq.out (by rw [List.length_set]; exact BJ.out) HBq.out ?_; intro wqn ho_ hb_ hg_; have HOqn := Aside0.mk ho_; rw [mk_step BJ.out (by rw [XL.out]; omega) Fq.out] at HOqn; have HBqn := Aside0.mk hb_; have HKqn := Aside0.mk (Kept.of_grown (S := P0_) hg_ HKq.out (fun k_ e_ => by have h_ := HOq.out.1 k_ e_; exact h_)); clear ho_ hb_ hg_ HOq HBq HKq) | ((with_reducible refine gate_dst (N := 97) rfl ?_); refine hx_addn rfl 3 (.tmp 96) _ rfl kq 1 rfl rfl (by have := Fq.out; have := KK.out; omega) ?_; intro kqn e_; have Fqn := Aside0.mk (show kqn = kk + (10 + (jj + 1)) by have := e_.out; have := Fq.out; omega); clear e_))
          go_roundw
          case rel => exact ⟨jj + 1, kqn, by first | rw [show wrap64 ((jj : Int) + 1) = ((jj + 1 : Nat) : Int) by unfold wrap64; omega] | (simp; done), rfl, ⟨by omega⟩, Fqn, HOqn, HBqn, HKqn⟩
          case measure =>
            (try rw [show wrap64 ((jj : Int) + 1) = ((jj + 1 : Nat) : Int) by unfold wrap64; omega])
            simp only [intOf]
            omega
        · obtain rfl : jj = 12 := by have := hjj.out; omega
          have c85b0 : decide ((12 : Int) < 12) = false := by decide
          have HO22 := HOq
          have HB22 := HBq
          have HK22 := HKq
          have F22 := Fq
          obtain ⟨k22, hk22⟩ : ∃ k22, k22 = kq := ⟨_, rfl⟩
          rw [← hk22] at F22
          rw [← hk22]
          clear HOq HBq HKq Fq c85 hk22
          go_wp2_with (first | ((with_reducible refine gate_store (t := 3) (p := 103) (v := .tmp 100) rfl ?_); refine hx_putm (w0 := w0) w0.heap.size rfl rfl 3 (.tmp 103) (.tmp 100) rfl 42 j (22) (b.set j (mkRow x kk (22))) (k22 : Int) (fun k_ => (P0_ k_ ∨ w.heap.size ≤ k_)) rfl (by first | rfl | omega) rfl (by kernel_rfl) (by omega) (by rw [List.length_set]; exact BL.out.symm) HO22.out (by rw [List.length_set]; exact BJ.out) HB22.out ?_; intro w23 ho_ hb_ hg_; have HO23 := Aside0.mk ho_; rw [mk_step BJ.out (by rw [XL.out]; omega) F22.out] at HO23; have HB23 := Aside0.mk hb_; have HK23 := Aside0.mk (Kept.of_grown (S := P0_) hg_ HK22.out (fun k_ e_ => by have h_ := HO22.out.1 k_ e_; exact h_)); clear ho_ hb_ hg_ HO22 HB22 HK22) | ((with_reducible refine gate_dst (N := 105) rfl ?_); refine hx_addn rfl 3 (.tmp 104) _ rfl k22 1 rfl rfl (by have := F22.out; have := KK.out; omega) ?_; intro k23 e_; have F23 := Aside0.mk (show k23 = kk + (23) by have := e_.out; have := F22.out; omega); clear e_) | ((with_reducible refine gate_store (t := 3) (p := 111) (v := .tmp 108) rfl ?_); refine hx_putm (w0 := w0) w0.heap.size rfl rfl 3 (.tmp 111) (.tmp 108) rfl 42 j (23) (b.set j (mkRow x kk (23))) (k23 : Int) (fun k_ => (P0_ k_ ∨ w.heap.size ≤ k_)) rfl (by first | rfl | omega) rfl (by kernel_rfl) (by omega) (by rw [List.length_set]; exact BL.out.symm) HO23.out (by rw [List.length_set]; exact BJ.out) HB23.out ?_; intro w24 ho_ hb_ hg_; have HO24 := Aside0.mk ho_; rw [mk_step BJ.out (by rw [XL.out]; omega) F23.out] at HO24; have HB24 := Aside0.mk hb_; have HK24 := Aside0.mk (Kept.of_grown (S := P0_) hg_ HK23.out (fun k_ e_ => by have h_ := HO23.out.1 k_ e_; exact h_)); clear ho_ hb_ hg_ HO23 HB23 HK23) | ((with_reducible refine gate_dst (N := 113) rfl ?_); refine hx_addn rfl 3 (.tmp 112) _ rfl k23 1 rfl rfl (by have := F23.out; have := KK.out; omega) ?_; intro k24 e_; have F24 := Aside0.mk (show k24 = kk + (24) by have := e_.out; have := F23.out; omega); clear e_))
          go_roundw
          case rel =>
            refine ⟨j + 1, k24, _, rfl, by rw [show wrap64 ((j : Int) + 1) = ((j + 1 : Nat) : Int) by (have := HLEN.out; have := C9.out; unfold wrap64; omega)], rfl, ⟨by have := C9.out; omega⟩, ⟨by have := F24.out; have := HKK.out; omega⟩, ⟨?_⟩, HB24, HK24⟩
            have h_ := HO24.out
            rw [mkRow_full XL.out, BE.out, HKK.out, marks_next l0 1 j C9.out] at h_
            exact h_
          case measure =>
            rw [show wrap64 ((j : Int) + 1) = ((j + 1 : Nat) : Int) by (have := HLEN.out; have := C9.out; unfold wrap64; omega)]
            simp only [intOf, Int.toNat_natCast]
            have := C9.out
            omega
    · obtain rfl : j = l0.length := by have := hj.out; omega
      have c9b0 : decide ((l0.length : Int) < (l0.length : Int)) = false := decide_eq_false (by omega)
      have c9b1 : decide (l0.length < l0.length) = false := decide_eq_false c9
      clear c9
      go_wp2
      go_ret
      have h_ := HO.out
      rw [List.drop_eq_nil_of_le (Nat.le_refl _), List.append_nil] at h_
      refine ⟨by have h2_ := HKK.out; subst h2_; rfl, h_, HB.out, HK.out⟩

open Go.Proofs.YtkghgjehjchajaaW Go.Proofs.YtkghgjehjchajaaW.PrintHand Go.Proofs.YtkghgjehjchajaaW.PrintHx
/-! ### laws_FnExactEncodeTable: function 7 -/
def laws_FnExactEncodeTable.Facts (l0 : List (List Int)) : Prop := (∃ (k : Nat) (r1_0 : Int), laws_szInodeS.f l0 1048576 = some r1_0 ∧ (¬ (r1_0 < 0) → (∃ (r2_0 : List (List Int)) (r3_0 : List Int) (r3_1 : Int) (r4_0 : List (List Int)) (r5_0 : List Int) (r7_0 : List (List Int)) (r9_0 : Int) (r9_k0 : List (List Int)) (r11_0 : Int) (r11_k0 : List Int) (r13_0 : List (List Int)) (r14_0 : List Int), laws_toInodeS.f l0 = some r2_0 ∧ spec_EncodeTable.f r2_0 = some (r3_0, r3_1) ∧ laws_toInodeS.f l0 = some r4_0 ∧ impl_EncodeTable.f r4_0 = some (r5_0, r3_1) ∧ laws_eqByteS.f k r5_0 r3_0 = some true ∧ laws_toInodeS.f l0 = some r7_0 ∧ laws_eqInodeS.f r4_0 r7_0 = some true ∧ laws_markInodeS.f r4_0 1 = some (r9_0, r9_k0) ∧ laws_eqByteS.f k r5_0 r3_0 = some true ∧ laws_markByteS.f k r5_0 1 = some (r11_0, r11_k0) ∧ laws_heldByteS.f k r11_k0 1 = some r11_0 ∧ laws_toInodeS.f l0 = some r13_0 ∧ impl_EncodeTable.f r13_0 = some (r14_0, r3_1) ∧ laws_eqByteS.f k r14_0 r3_0 = some true ∧ laws_heldByteS.f k r11_k0 1 = some r11_0 ∧ ¬ (r9_0 < 0) ∧ ¬ (r11_0 < 0) ∧ ¬ (r11_0 < 0))))
def laws_FnExactEncodeTable.Pure : Prop := ∀ (l0 : List (List Int)), (l0.length ≤ maxLen ∧ ∀ q129 ∈ l0, (q129.length = 24 ∧ ∀ y ∈ q129, (Lit.int .i64 y).wf = true)) → laws_FnExactEncodeTable.Facts l0
set_option maxHeartbeats 8000000 in
set_option maxRecDepth 100000 in
theorem laws_FnExactEncodeTable.calls (A0 : Option Addr) (c0 : Nat) (l0 : List (List Int)) (w : World) (hr0 : Kd.C (PrintHx.wide 24) w A0 l0.length l0) (hc0 : l0.length ≤ c0) (hf : laws_FnExactEncodeTable.Facts l0) :
    Calls Try.prog 7 #[.slice A0 l0.length c0] w fun e w' => e = .returned (.bool true) ∧ Below w.heap.size w w' := by
  have HR0 := Aside0.mk hr0; have HC0 := Aside0.mk hc0; clear hr0 hc0
  unfold laws_FnExactEncodeTable.Facts at hf
  have HB0 : Aside0 (Below w.heap.size w w) := ⟨Below.refl _ _⟩
  obtain ⟨s0, Sz0⟩ : ∃ s0, Aside0 (w.heap.size = s0) := ⟨_, ⟨rfl⟩⟩
  have hw0 : w.heap.size ≤ s0 := Nat.le_of_eq Sz0.out
  have hw1 : s0 ≤ w.heap.size := Nat.le_of_eq Sz0.out.symm
  obtain ⟨k, r1_0, eE1_, hf⟩ := hf
  have E1 := Aside0.mk eE1_
  clear eE1_
  by_cases g0_ : r1_0 < 0
  · clear hf
    (try (have g0__0 : decide (r1_0 < 0) = true := decide_eq_true g0_))
    go_enter Try.func7, Try.ntmps7
    go_wp2_with (first | ((with_reducible refine gate_dst (N := 16) rfl ?_); refine goesL_ (some 16) rfl rfl Try.func27 (by kernel_rfl) rfl #[.slice A0 l0.length c0, .int .i64 1048576] rfl (by (try simp only [List.map_toArray, List.map_cons, List.map_nil]); first | done | rfl) ?_; refine (laws_szInodeS.calls _ _ _ _ _ _ (Kd.C_below HR0.out HB0.out) HC0.out E1.out).mono ?_; rintro e_ w1 ⟨rfl, b_⟩; have b1 := kept_drawn b_; refine ⟨_, rfl, ?_⟩; obtain ⟨s1, L1, Sz1⟩ := size_letter Sz0 (kept_below b1); have K0 := kept_below b1; have HB1 := Aside0.mk (below_then HB0.out HB0.out.size b1); clear b1; clear K0 HB0))
    go_ret
    exact ⟨rfl, HB1.out⟩
  replace hf := hf g0_
  (try (have g0__0 : decide (r1_0 < 0) = false := decide_eq_false g0_))
  have G0_ := Aside0.mk g0_
  clear g0_
  obtain ⟨r2_0, r3_0, r3_1, r4_0, r5_0, r7_0, r9_0, r9_k0, r11_0, r11_k0, r13_0, r14_0, eE2_, eE3_, eE4_, eE5_, eE6_, eE7_, eE8_, eE9_, eE10_, eE11_, eE12_, eE13_, eE14_, eE15_, eE16_, h1_0_, h1_1_, h1_2_⟩ := hf
  have E2 := Aside0.mk eE2_
  clear eE2_
  have E3 := Aside0.mk eE3_
  clear eE3_
  have E4 := Aside0.mk eE4_
  clear eE4_
  have E5 := Aside0.mk eE5_
  clear eE5_
  have E6 := Aside0.mk eE6_
  clear eE6_
  have E7 := Aside0.mk eE7_
  clear eE7_
  have E8 := Aside0.mk eE8_
  clear eE8_
  have E9 := Aside0.mk eE9_
  clear eE9_
  have E10 := Aside0.mk eE10_
  clear eE10_
  have E11 := Aside0.mk eE11_
  clear eE11_
  have E12 := Aside0.mk eE12_
  clear eE12_
  have E13 := Aside0.mk eE13_
  clear eE13_
  have E14 := Aside0.mk eE14_
  clear eE14_
  have E15 := Aside0.mk eE15_
  clear eE15_
  have E16 := Aside0.mk eE16_
  clear eE16_
  (try (have h1_0__0 : decide (r9_0 < 0) = false := decide_eq_false h1_0_))
  (try (have h1_1__0 : decide (r11_0 < 0) = false := decide_eq_false h1_1_))
  (try (have h1_2__0 : decide (r11_0 < 0) = false := decide_eq_false h1_2_))
  go_enter Try.func7, Try.ntmps7
  go_wp2_with (first | ((with_reducible refine gate_dst (N := 16) rfl ?_); refine goesL_ (some 16) rfl rfl Try.func27 (by kernel_rfl) rfl #[.slice A0 l0.length c0, .int .i64 1048576] rfl (by (try simp only [List.map_toArray, List.map_cons, List.map_nil]); first | done | rfl) ?_; refine (laws_szInodeS.calls _ _ _ _ _ _ (Kd.C_below HR0.out HB0.out) HC0.out E1.out).mono ?_; rintro e_ w1 ⟨rfl, b_⟩; have b1 := kept_drawn b_; refine ⟨_, rfl, ?_⟩; obtain ⟨s1, L1, Sz1⟩ := size_letter Sz0 (kept_below b1); have K0 := kept_below b1; have HB1 := Aside0.mk (below_then HB0.out HB0.out.size b1); clear b1; clear K0 HB0) | ((with_reducible refine gate_dst (N := 21) rfl ?_); refine goesL_ (some 21) rfl rfl Try.func29 (by kernel_rfl) rfl #[.slice A0 l0.length c0] rfl (by (try simp only [List.map_toArray, List.map_cons, List.map_nil]); first | done | rfl) ?_; refine (laws_toInodeS.calls _ _ _ _ _ (Kd.C_below HR0.out HB1.out) HC0.out E2.out).mono ?_; rintro e_ w2 ⟨v0_, rfl, R2_0, b2⟩; obtain ⟨A2_0, c2_0, rfl⟩ := Kd.R_slice R2_0; refine ⟨_, rfl, ?_⟩; obtain ⟨s2, L2, Sz2⟩ := size_letter Sz1 (kept_below b2); have O2_0_2 := own_btw R2_0 Sz1.out Sz2 HB1.out.size; clear R2_0; have K1 := kept_below b2; have HB2 := Aside0.mk (below_then HB1.out HB1.out.size b2); clear b2; clear K1 HB1) | ((with_reducible refine gate_dst (N := 22) rfl ?_); refine goesL_ (some 22) rfl rfl Try.func28 (by kernel_rfl) rfl #[.slice A2_0 r2_0.length c2_0] rfl (by (try simp only [List.map_toArray, List.map_cons, List.map_nil]); first | done | rfl) ?_; refine (spec_EncodeTable.calls _ _ _ _ _ _ (Kd.R_reads' O2_0_2.out).2.2 (Kd.R_reads' O2_0_2.out).2.1 E3.out).mono ?_; rintro e_ w3 ⟨v0_, rfl, R3_0, b3⟩; obtain ⟨A3_0, c3_0, rfl⟩ := Kd.R_slice R3_0; refine ⟨_, rfl, ?_⟩; obtain ⟨s3, L3, Sz3⟩ := size_letter Sz2 (kept_below b3); have O3_0_3 := own_btw R3_0 Sz2.out Sz3 HB2.out.size; clear R3_0; have K2 := kept_below b3; have HB3 := Aside0.mk (below_then HB2.out HB2.out.size b3); have O2_0_3 := Aside0.mk (Kd.R_kept O2_0_2.out K2 (fun _ _ h_ => h_)); clear b3; clear K2 HB2 O2_0_2) | ((with_reducible refine gate_dst (N := 26) rfl ?_); refine goesL_ (some 26) rfl rfl Try.func29 (by kernel_rfl) rfl #[.slice A0 l0.length c0] rfl (by (try simp only [List.map_toArray, List.map_cons, List.map_nil]); first | done | rfl) ?_; refine (laws_toInodeS.calls _ _ _ _ _ (Kd.C_below HR0.out HB3.out) HC0.out E4.out).mono ?_; rintro e_ w4 ⟨v0_, rfl, R4_0, b4⟩; obtain ⟨A4_0, c4_0, rfl⟩ := Kd.R_slice R4_0; refine ⟨_, rfl, ?_⟩; obtain ⟨s4, L4, Sz4⟩ := size_letter Sz3 (kept_below b4); have O4_0_4 := own_btw R4_0 Sz3.out Sz4 HB3.out.size; clear R4_0; have K3 := kept_below b4; have HB4 := Aside0.mk (below_then HB3.out HB3.out.size b4); have O2_0_4 := Aside0.mk (Kd.R_kept O2_0_3.out K3 (fun _ _ h_ => h_)); have O3_0_4 := Aside0.mk (Kd.R_kept O3_0_3.out K3 (fun _ _ h_ => h_)); clear b4; clear K3 HB3 O2_0_3 O3_0_3) | ((with_reducible refine gate_dst (N := 29) rfl ?_); refine goesL_ (some 29) rfl rfl Try.func30 (by kernel_rfl) rfl #[.slice A4_0 r4_0.length c4_0] rfl (by (try simp only [List.map_toArray, List.map_cons, List.map_nil]); first | done | rfl) ?_; refine (impl_EncodeTable.calls _ _ _ _ _ _ (Kd.R_reads' O4_0_4.out).2.2 (Kd.R_reads' O4_0_4.out).2.1 E5.out).mono ?_; rintro e_ w5 ⟨v0_, rfl, R5_0, b5⟩; obtain ⟨A5_0, c5_0, rfl⟩ := Kd.R_slice R5_0; refine ⟨_, rfl, ?_⟩; obtain ⟨s5, L5, Sz5⟩ := size_letter Sz4 (kept_below b5); have O5_0_5 := own_btw R5_0 Sz4.out Sz5 HB4.out.size; clear R5_0; have K4 := kept_below b5; have HB5 := Aside0.mk (below_then HB4.out HB4.out.size b5); have O2_0_5 := Aside0.mk (Kd.R_kept O2_0_4.out K4 (fun _ _ h_ => h_)); have O3_0_5 := Aside0.mk (Kd.R_kept O3_0_4.out K4 (fun _ _ h_ => h_)); have O4_0_5 := Aside0.mk (Kd.R_kept O4_0_4.out K4 (fun _ _ h_ => h_)); clear b5; clear K4 HB4 O2_0_4 O3_0_4 O4_0_4) | ((with_reducible refine gate_dst (N := 34) rfl ?_); refine goesL_ (some 34) rfl rfl Try.func14 (by kernel_rfl) rfl #[.slice A5_0 r5_0.length c5_0, .slice A3_0 r3_0.length c3_0] rfl (by (try simp only [List.map_toArray, List.map_cons, List.map_nil]); first | done | rfl) ?_; refine (laws_eqByteS.calls _ _ _ _ _ _ _ _ _ (Kd.R_reads' O5_0_5.out).2.2 (Kd.R_reads' O5_0_5.out).2.1 (Kd.R_reads' O3_0_5.out).2.2 (Kd.R_reads' O3_0_5.out).2.1 E6.out).mono ?_; rintro e_ w6 ⟨rfl, b_⟩; have b6 := kept_drawn b_; refine ⟨_, rfl, ?_⟩; obtain ⟨s6, L6, Sz6⟩ := size_letter Sz5 (kept_below b6); have K5 := kept_below b6; have HB6 := Aside0.mk (below_then HB5.out HB5.out.size b6); have O2_0_6 := Aside0.mk (Kd.R_kept O2_0_5.out K5 (fun _ _ h_ => h_)); have O3_0_6 := Aside0.mk (Kd.R_kept O3_0_5.out K5 (fun _ _ h_ => h_)); have O4_0_6 := Aside0.mk (Kd.R_kept O4_0_5.out K5 (fun _ _ h_ => h_)); have O5_0_6 := Aside0.mk (Kd.R_kept O5_0_5.out K5 (fun _ _ h_ => h_)); clear b6; clear K5 HB5 O2_0_5 O3_0_5 O4_0_5 O5_0_5) | ((with_reducible refine gate_dst (N := 43) rfl ?_); refine goesL_ (some 43) rfl rfl Try.func29 (by kernel_rfl) rfl #[.slice A0 l0.length c0] rfl (by (try simp only [List.map_toArray, List.map_cons, List.map_nil]); first | done | rfl) ?_; refine (laws_toInodeS.calls _ _ _ _ _ (Kd.C_below HR0.out HB6.out) HC0.out E7.out).mono ?_; rintro e_ w7 ⟨v0_, rfl, R7_0, b7⟩; obtain ⟨A7_0, c7_0, rfl⟩ := Kd.R_slice R7_0; refine ⟨_, rfl, ?_⟩; obtain ⟨s7, L7, Sz7⟩ := size_letter Sz6 (kept_below b7); have O7_0_7 := own_btw R7_0 Sz6.out Sz7 HB6.out.size; clear R7_0; have K6 := kept_below b7; have HB7 := Aside0.mk (below_then HB6.out HB6.out.size b7); have O2_0_7 := Aside0.mk (Kd.R_kept O2_0_6.out K6 (fun _ _ h_ => h_)); have O3_0_7 := Aside0.mk (Kd.R_kept O3_0_6.out K6 (fun _ _ h_ => h_)); have O4_0_7 := Aside0.mk (Kd.R_kept O4_0_6.out K6 (fun _ _ h_ => h_)); have O5_0_7 := Aside0.mk (Kd.R_kept O5_0_6.out K6 (fun _ _ h_ => h_)); clear b7; clear K6 HB6 O2_0_6 O3_0_6 O4_0_6 O5_0_6) | ((with_reducible refine gate_dst (N := 44) rfl ?_); refine goesL_ (some 44) rfl rfl Try.func31 (by kernel_rfl) rfl #[.slice A4_0 r4_0.length c4_0, .slice A7_0 r7_0.length c7_0] rfl (by (try simp only [List.map_toArray, List.map_cons, List.map_nil]); first | done | rfl) ?_; refine (laws_eqInodeS.calls _ _ _ _ _ _ _ _ (Kd.R_reads' O4_0_7.out).2.2 (Kd.R_reads' O4_0_7.out).2.1 (Kd.R_reads' O7_0_7.out).2.2 (Kd.R_reads' O7_0_7.out).2.1 E8.out).mono ?_; rintro e_ w8 ⟨rfl, b8⟩; refine ⟨_, rfl, ?_⟩; obtain ⟨s8, L8, Sz8⟩ := size_letter Sz7 (kept_below b8); have K7 := kept_below b8; have HB8 := Aside0.mk (below_then HB7.out HB7.out.size b8); have O2_0_8 := Aside0.mk (Kd.R_kept O2_0_7.out K7 (fun _ _ h_ => h_)); have O3_0_8 := Aside0.mk (Kd.R_kept O3_0_7.out K7 (fun _ _ h_ => h_)); have O4_0_8 := Aside0.mk (Kd.R_kept O4_0_7.out K7 (fun _ _ h_ => h_)); have O5_0_8 := Aside0.mk (Kd.R_kept O5_0_7.out K7 (fun _ _ h_ => h_)); have O7_0_8 := Aside0.mk (Kd.R_kept O7_0_7.out K7 (fun _ _ h_ => h_)); clear b8; clear K7 HB7 O2_0_7 O3_0_7 O4_0_7 O5_0_7 O7_0_7) | ((with_reducible refine gate_dst (N := 48) rfl ?_); refine goesL_ (some 48) rfl rfl Try.func32 (by kernel_rfl) rfl #[.slice A4_0 r4_0.length c4_0, .int .i64 1] rfl (by (try simp only [List.map_toArray, List.map_cons, List.map_nil]); first | done | rfl) ?_; refine (laws_markInodeS.calls _ _ _ _ _ _ _ _ HB8.out O4_0_8.out E9.out).mono ?_; rintro e_ w9 ⟨rfl, R9_0, hb_, kp_⟩; refine ⟨_, rfl, ?_⟩; have K8 := Kept.mono kp_ (fun k_ hk_ => hk_); have HB9 := Aside0.mk hb_; obtain ⟨s9, L9, Sz9⟩ := size_letter Sz8 K8; have O4_0_9 := own_same R9_0 O4_0_8.out rfl; clear R9_0 kp_ hb_; have O2_0_9 := Aside0.mk (Kd.R_kept O2_0_8.out K8 (fun k_ hk_ h_ => by have h1_ := hk_.1; have h2_ := hk_.2; have h3_ := h_.1; have h4_ := h_.2; omega)); have O3_0_9 := Aside0.mk (Kd.R_kept O3_0_8.out K8 (fun k_ hk_ h_ => by have h1_ := hk_.1; have h2_ := hk_.2; have h3_ := h_.1; have h4_ := h_.2; omega)); have O5_0_9 := Aside0.mk (Kd.R_kept O5_0_8.out K8 (fun k_ hk_ h_ => by have h1_ := hk_.1; have h2_ := hk_.2; have h3_ := h_.1; have h4_ := h_.2; omega)); have O7_0_9 := Aside0.mk (Kd.R_kept O7_0_8.out K8 (fun k_ hk_ h_ => by have h1_ := hk_.1; have h2_ := hk_.2; have h3_ := h_.1; have h4_ := h_.2; omega)); clear K8 HB8 O2_0_8 O3_0_8 O5_0_8 O7_0_8; clear O4_0_8) | ((with_reducible refine gate_dst (N := 54) rfl ?_); refine Go.Proofs.YtkghgjehjchajaaW.PrintTab2.ungd (by rfl) ?_; refine goesL_ (some 54) rfl rfl Try.func14 (by kernel_rfl) rfl #[.slice A5_0 r5_0.length c5_0, .slice A3_0 r3_0.length c3_0] rfl (by (try simp only [List.map_toArray, List.map_cons, List.map_nil]); first | done | rfl) ?_; refine (laws_eqByteS.calls _ _ _ _ _ _ _ _ _ (Kd.R_reads' O5_0_9.out).2.2 (Kd.R_reads' O5_0_9.out).2.1 (Kd.R_reads' O3_0_9.out).2.2 (Kd.R_reads' O3_0_9.out).2.1 E10.out).mono ?_; rintro e_ w10 ⟨rfl, b_⟩; have b10 := kept_drawn b_; refine ⟨_, rfl, ?_⟩; obtain ⟨s10, L10, Sz10⟩ := size_letter Sz9 (kept_below b10); have K9 := kept_below b10; have HB10 := Aside0.mk (below_then HB9.out HB9.out.size b10); have O2_0_10 := Aside0.mk (Kd.R_kept O2_0_9.out K9 (fun _ _ h_ => h_)); have O3_0_10 := Aside0.mk (Kd.R_kept O3_0_9.out K9 (fun _ _ h_ => h_)); have O4_0_10 := Aside0.mk (Kd.R_kept O4_0_9.out K9 (fun _ _ h_ => h_)); have O5_0_10 := Aside0.mk (Kd.R_kept O5_0_9.out K9 (fun _ _ h_ => h_)); have O7_0_10 := Aside0.mk (Kd.R_kept O7_0_9.out K9 (fun _ _ h_ => h_)); clear b10; clear K9 HB9 O2_0_9 O3_0_9 O4_0_9 O5_0_9 O7_0_9) | ((with_reducible refine gate_dst (N := 64) rfl ?_); refine goesL_ (some 64) rfl rfl Try.func15 (by kernel_rfl) rfl #[.slice A5_0 r5_0.length c5_0, .int .i64 1] rfl (by (try simp only [List.map_toArray, List.map_cons, List.map_nil]); first | done | rfl) ?_; refine (laws_markByteS.calls _ _ _ _ _ _ _ _ _ HB10.out O5_0_10.out E11.out).mono ?_; rintro e_ w11 ⟨rfl, R11_0, hb_, kp_⟩; refine ⟨_, rfl, ?_⟩; have K10 := Kept.mono kp_ (fun k_ hk_ => hk_); have HB11 := Aside0.mk hb_; obtain ⟨s11, L11, Sz11⟩ := size_letter Sz10 K10; have O5_0_11 := own_same R11_0 O5_0_10.out rfl; clear R11_0 kp_ hb_; have O2_0_11 := Aside0.mk (Kd.R_kept O2_0_10.out K10 (fun k_ hk_ h_ => by have h1_ := hk_.1; have h2_ := hk_.2; have h3_ := h_.1; have h4_ := h_.2; omega)); have O3_0_11 := Aside0.mk (Kd.R_kept O3_0_10.out K10 (fun k_ hk_ h_ => by have h1_ := hk_.1; have h2_ := hk_.2; have h3_ := h_.1; have h4_ := h_.2; omega)); have O4_0_11 := Aside0.mk (Kd.R_kept O4_0_10.out K10 (fun k_ hk_ h_ => by have h1_ := hk_.1; have h2_ := hk_.2; have h3_ := h_.1; have h4_ := h_.2; omega)); have O7_0_11 := Aside0.mk (Kd.R_kept O7_0_10.out K10 (fun k_ hk_ h_ => by have h1_ := hk_.1; have h2_ := hk_.2; have h3_ := h_.1; have h4_ := h_.2; omega)); clear K10 HB10 O2_0_10 O3_0_10 O4_0_10 O7_0_10; clear O5_0_10) | ((with_reducible refine gate_dst (N := 67) rfl ?_); refine goesL_ (some 67) rfl rfl Try.func16 (by kernel_rfl) rfl #[.slice A5_0 r5_0.length c5_0, .int .i64 1] rfl (by (try simp only [List.map_toArray, List.map_cons, List.map_nil]); first | done | rfl) ?_; refine calls_of_args (args' := #[.slice A5_0 r11_k0.length c5_0, .int .i64 1]) (by rw [(Kd.R_reads' O5_0_11.out).1]) ?_; refine (laws_heldByteS.calls _ _ _ _ _ _ _ (Kd.R_reads' O5_0_11.out).2.2 (by have h_ := Kd.R_reads' O5_0_11.out; rw [← h_.1]; exact h_.2.1) E12.out).mono ?_; rintro e_ w12 ⟨rfl, b_⟩; have b12 := kept_drawn b_; refine ⟨_, rfl, ?_⟩; obtain ⟨s12, L12, Sz12⟩ := size_letter Sz11 (kept_below b12); have K11 := kept_below b12; have HB12 := Aside0.mk (below_then HB11.out HB11.out.size b12); have O2_0_12 := Aside0.mk (Kd.R_kept O2_0_11.out K11 (fun _ _ h_ => h_)); have O3_0_12 := Aside0.mk (Kd.R_kept O3_0_11.out K11 (fun _ _ h_ => h_)); have O4_0_12 := Aside0.mk (Kd.R_kept O4_0_11.out K11 (fun _ _ h_ => h_)); have O5_0_12 := Aside0.mk (Kd.R_kept O5_0_11.out K11 (fun _ _ h_ => h_)); have O7_0_12 := Aside0.mk (Kd.R_kept O7_0_11.out K11 (fun _ _ h_ => h_)); clear b12; clear K11 HB11 O2_0_11 O3_0_11 O4_0_11 O5_0_11 O7_0_11) | ((with_reducible refine gate_dst (N := 75) rfl ?_); refine goesL_ (some 75) rfl rfl Try.func29 (by kernel_rfl) rfl #[.slice A0 l0.length c0] rfl (by (try simp only [List.map_toArray, List.map_cons, List.map_nil]); first | done | rfl) ?_; refine (laws_toInodeS.calls _ _ _ _ _ (Kd.C_below HR0.out HB12.out) HC0.out E13.out).mono ?_; rintro e_ w13 ⟨v0_, rfl, R13_0, b13⟩; obtain ⟨A13_0, c13_0, rfl⟩ := Kd.R_slice R13_0; refine ⟨_, rfl, ?_⟩; obtain ⟨s13, L13, Sz13⟩ := size_letter Sz12 (kept_below b13); have O13_0_13 := own_btw R13_0 Sz12.out Sz13 HB12.out.size; clear R13_0; have K12 := kept_below b13; have HB13 := Aside0.mk (below_then HB12.out HB12.out.size b13); have O2_0_13 := Aside0.mk (Kd.R_kept O2_0_12.out K12 (fun _ _ h_ => h_)); have O3_0_13 := Aside0.mk (Kd.R_kept O3_0_12.out K12 (fun _ _ h_ => h_)); have O4_0_13 := Aside0.mk (Kd.R_kept O4_0_12.out K12 (fun _ _ h_ => h_)); have O5_0_13 := Aside0.mk (Kd.R_kept O5_0_12.out K12 (fun _ _ h_ => h_)); have O7_0_13 := Aside0.mk (Kd.R_kept O7_0_12.out K12 (fun _ _ h_ => h_)); clear b13; clear K12 HB12 O2_0_12 O3_0_12 O4_0_12 O5_0_12 O7_0_12) | ((with_reducible refine gate_dst (N := 76) rfl ?_); refine goesL_ (some 76) rfl rfl Try.func30 (by kernel_rfl) rfl #[.slice A13_0 r13_0.length c13_0] rfl (by (try simp only [List.map_toArray, List.map_cons, List.map_nil]); first | done | rfl) ?_; refine (impl_EncodeTable.calls _ _ _ _ _ _ (Kd.R_reads' O13_0_13.out).2.2 (Kd.R_reads' O13_0_13.out).2.1 E14.out).mono ?_; rintro e_ w14 ⟨v0_, rfl, R14_0, b14⟩; obtain ⟨A14_0, c14_0, rfl⟩ := Kd.R_slice R14_0; refine ⟨_, rfl, ?_⟩; obtain ⟨s14, L14, Sz14⟩ := size_letter Sz13 (kept_below b14); have O14_0_14 := own_btw R14_0 Sz13.out Sz14 HB13.out.size; clear R14_0; have K13 := kept_below b14; have HB14 := Aside0.mk (below_then HB13.out HB13.out.size b14); have O2_0_14 := Aside0.mk (Kd.R_kept O2_0_13.out K13 (fun _ _ h_ => h_)); have O3_0_14 := Aside0.mk (Kd.R_kept O3_0_13.out K13 (fun _ _ h_ => h_)); have O4_0_14 := Aside0.mk (Kd.R_kept O4_0_13.out K13 (fun _ _ h_ => h_)); have O5_0_14 := Aside0.mk (Kd.R_kept O5_0_13.out K13 (fun _ _ h_ => h_)); have O7_0_14 := Aside0.mk (Kd.R_kept O7_0_13.out K13 (fun _ _ h_ => h_)); have O13_0_14 := Aside0.mk (Kd.R_kept O13_0_13.out K13 (fun _ _ h_ => h_)); clear b14; clear K13 HB13 O2_0_13 O3_0_13 O4_0_13 O5_0_13 O7_0_13 O13_0_13) | ((with_reducible refine gate_dst (N := 81) rfl ?_); refine goesL_ (some 81) rfl rfl Try.func14 (by kernel_rfl) rfl #[.slice A14_0 r14_0.length c14_0, .slice A3_0 r3_0.length c3_0] rfl (by (try simp only [List.map_toArray, List.map_cons, List.map_nil]); first | done | rfl) ?_; refine (laws_eqByteS.calls _ _ _ _ _ _ _ _ _ (Kd.R_reads' O14_0_14.out).2.2 (Kd.R_reads' O14_0_14.out).2.1 (Kd.R_reads' O3_0_14.out).2.2 (Kd.R_reads' O3_0_14.out).2.1 E15.out).mono ?_; rintro e_ w15 ⟨rfl, b_⟩; have b15 := kept_drawn b_; refine ⟨_, rfl, ?_⟩; obtain ⟨s15, L15, Sz15⟩ := size_letter Sz14 (kept_below b15); have K14 := kept_below b15; have HB15 := Aside0.mk (below_then HB14.out HB14.out.size b15); have O2_0_15 := Aside0.mk (Kd.R_kept O2_0_14.out K14 (fun _ _ h_ => h_)); have O3_0_15 := Aside0.mk (Kd.R_kept O3_0_14.out K14 (fun _ _ h_ => h_)); have O4_0_15 := Aside0.mk (Kd.R_kept O4_0_14.out K14 (fun _ _ h_ => h_)); have O5_0_15 := Aside0.mk (Kd.R_kept O5_0_14.out K14 (fun _ _ h_ => h_)); have O7_0_15 := Aside0.mk (Kd.R_kept O7_0_14.out K14 (fun _ _ h_ => h_)); have O13_0_15 := Aside0.mk (Kd.R_kept O13_0_14.out K14 (fun _ _ h_ => h_)); have O14_0_15 := Aside0.mk (Kd.R_kept O14_0_14.out K14 (fun _ _ h_ => h_)); clear b15; clear K14 HB14 O2_0_14 O3_0_14 O4_0_14 O5_0_14 O7_0_14 O13_0_14 O14_0_14) | ((with_reducible refine gate_dst (N := 90) rfl ?_); refine goesL_ (some 90) rfl rfl Try.func16 (by kernel_rfl) rfl #[.slice A5_0 r5_0.length c5_0, .int .i64 1] rfl (by (try simp only [List.map_toArray, List.map_cons, List.map_nil]); first | done | rfl) ?_; refine calls_of_args (args' := #[.slice A5_0 r11_k0.length c5_0, .int .i64 1]) (by rw [(Kd.R_reads' O5_0_15.out).1]) ?_; refine (laws_heldByteS.calls _ _ _ _ _ _ _ (Kd.R_reads' O5_0_15.out).2.2 (by have h_ := Kd.R_reads' O5_0_15.out; rw [← h_.1]; exact h_.2.1) E16.out).mono ?_; rintro e_ w16 ⟨rfl, b_⟩; have b16 := kept_drawn b_; refine ⟨_, rfl, ?_⟩; obtain ⟨s16, L16, Sz16⟩ := size_letter Sz15 (kept_below b16); have K15 := kept_below b16; have HB16 := Aside0.mk (below_then HB15.out HB15.out.size b16); have O2_0_16 := Aside0.mk (Kd.R_kept O2_0_15.out K15 (fun _ _ h_ => h_)); have O3_0_16 := Aside0.mk (Kd.R_kept O3_0_15.out K15 (fun _ _ h_ => h_)); have O4_0_16 := Aside0.mk (Kd.R_kept O4_0_15.out K15 (fun _ _ h_ => h_)); have O5_0_16 := Aside0.mk (Kd.R_kept O5_0_15.out K15 (fun _ _ h_ => h_)); have O7_0_16 := Aside0.mk (Kd.R_kept O7_0_15.out K15 (fun _ _ h_ => h_)); have O13_0_16 := Aside0.mk (Kd.R_kept O13_0_15.out K15 (fun _ _ h_ => h_)); have O14_0_16 := Aside0.mk (Kd.R_kept O14_0_15.out K15 (fun _ _ h_ => h_)); clear b16; clear K15 HB15 O2_0_15 O3_0_15 O4_0_15 O5_0_15 O7_0_15 O13_0_15 O14_0_15))
  go_ret
  exact ⟨rfl, HB16.out⟩

end Go.Proofs.Ytkghgjehjchajaa.PFnExactEncodeTable
