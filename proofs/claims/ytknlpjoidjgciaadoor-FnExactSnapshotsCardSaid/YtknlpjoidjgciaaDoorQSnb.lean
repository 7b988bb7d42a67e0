/- Snapshots: markSnapS, heldSnapS. -/
import Derived.Test.YtknlpjoidjgciaaDoorQSna
import Derived.Test.YtknlpjoidjgciaaDoorQW2
namespace Go.Proofs.YtknlpjoidjgciaaDoor.PFnExactSnapshots
open Go Go.RowKit Go.Proofs.YtknlpjoidjgciaaDoorW.PrintWords Go.Proofs.YtknlpjoidjgciaaDoorW.PrintLast Go.Proofs.YtknlpjoidjgciaaDoorW.PrintMore Go.Proofs.YtknlpjoidjgciaaDoorW.PrintHand Go.Proofs.YtknlpjoidjgciaaDoorW.PrintHx Go.Proofs.YtknlpjoidjgciaaDoorW.PrintLe Go.Proofs.YtknlpjoidjgciaaDoorW.PrintIno Go.Proofs.YtknlpjoidjgciaaDoorW.PrintDec Go.Proofs.YtknlpjoidjgciaaDoorW.PrintFsi Go.Proofs.YtknlpjoidjgciaaDoorW.PrintFsb Go.Proofs.YtknlpjoidjgciaaDoorW.PrintFsd Go.Proofs.YtknlpjoidjgciaaDoorW.PrintCrc Go.Proofs.YtknlpjoidjgciaaDoorW.PrintGrow Go.Proofs.YtknlpjoidjgciaaDoorW.PrintSnp Go.Proofs.YtknlpjoidjgciaaDoorW.PrintSnd Go.Proofs.YtknlpjoidjgciaaDoorW.PrintRws Go.Proofs.YtknlpjoidjgciaaDoorW
open Go.Proofs.YtknlpjoidjgciaaDoorW.PrintTab2 Go.Proofs.YtknlpjoidjgciaaDoorW.PrintTab3
attribute [local go_sem] max2_int min2_int max_two min_two max_three min_three max_four min_four
set_option linter.unusedVariables false
set_option linter.unusedSimpArgs false
set_option maxHeartbeats 8000000 in
set_option maxRecDepth 100000 in
theorem markSnapS_told (P0_ : Nat → Prop) (v0 : Value) (l0 : List (List Value)) (w0 w : World) (hl : l0.length ≤ 1048576) (hB : Below w0.heap.size w0 w) (ho0 : Kd.R (cellsK 19) 131 w w0.heap.size P0_ v0 l0) :
    Calls Tryd.prog 40 #[v0, .int .i64 1] w fun e w' => e = .returned (.int .i64 ((1 + 19 * l0.length : Nat) : Int)) ∧ Kd.R (cellsK 19) 131 w' w0.heap.size (fun k_ => (P0_ k_ ∨ w.heap.size ≤ k_)) v0 (marksC l0.length) ∧ Below w0.heap.size w0 w' ∧ Kept w w' (fun k_ => P0_ k_) := by
  have HLEN := Aside0.mk hl
  have HW : Aside0 (∀ x ∈ l0, x.length = 19) := by
    obtain ⟨A_, c_, e_⟩ := Kd.R_slice ho0
    rw [e_] at ho0
    exact ⟨cells_len (Kd.R_reads' ho0).2.2⟩
  have HO := Aside0.mk (show Kd.R (cellsK 19) 131 w w0.heap.size (fun k_ => (P0_ k_ ∨ w.heap.size ≤ k_)) v0 l0 from Kd.R_mono ho0 (fun k_ hk => (.inl hk)))
  have HK := Aside0.mk (Kept.refl w (fun k_ => P0_ k_))
  have HB := Aside0.mk hB
  clear ho0 hB hl
  obtain ⟨A0_, c0_, ev_⟩ := Kd.R_slice HO.out
  subst ev_
  go_enter Tryd.func40, Tryd.ntmps40
  go_wp2
  (try simp only [Act.put, List.setIfInBounds_toArray, List.set_cons_succ, List.set_cons_zero])
  go_loopw [1, 5, 6] (fun v1 v5 v6 wr => ∃ (j kk : Nat) (u6 : Value), u6 = v6 ∧ v5 = .int .i64 (j : Int) ∧ v1 = .int .i64 (kk : Int) ∧ Aside0 (j ≤ l0.length) ∧ Aside0 (kk = 1 + 19 * j) ∧ Aside0 (Kd.R (cellsK 19) 131 wr w0.heap.size (fun k_ => (P0_ k_ ∨ w.heap.size ≤ k_)) (.slice A0_ l0.length c0_) (marksC j ++ l0.drop j)) ∧ Aside0 (Below w0.heap.size w0 wr) ∧ Aside0 (Kept w wr P0_)) (fun _ v5 _ _ => l0.length - (intOf v5).toNat)
  case atStart => exact ⟨0, 1, _, rfl, rfl, rfl, ⟨Nat.zero_le _⟩, ⟨rfl⟩, HO, HB, HK⟩
  case round =>
    clear HO HB HK
    obtain ⟨j, kk, v6, rfl, rfl, rfl, hj, HKK, HO, HB, HK⟩ := hrel
    by_cases c9 : j < l0.length
    · have c9b0 : decide ((j : Int) < (l0.length : Int)) = true := decide_eq_true (by omega)
      have c9b1 : decide (j < l0.length) = true := decide_eq_true c9
      obtain ⟨b, hb⟩ : ∃ b, b = marksC j ++ l0.drop j := ⟨_, rfl⟩
      have hbl : b.length = l0.length := by rw [hb, List.length_append, marksC_length, List.length_drop]; omega
      obtain ⟨g, cap, ev, hbg, hlt_, cells, hce⟩ := Kd.R_form HO.out (by rw [← hb, hbl]; omega)
      rw [← hb, hbl] at ev
      obtain ⟨rfl, rfl⟩ : A0_ = some ⟨g, 0, none⟩ ∧ c0_ = cap := by cases ev; exact ⟨rfl, rfl⟩
      clear ev hbg hlt_ hce cells
      obtain ⟨x, hx⟩ : ∃ x, x = b.getD j [] := ⟨_, rfl⟩
      have hxe : x = l0.getD j [] := by rw [hx, hb, List.getD_eq_getElem?_getD, List.getElem?_append_right (by rw [marksC_length]; exact Nat.le_refl _), marksC_length, Nat.sub_self, List.getElem?_drop, Nat.add_zero, List.getD_eq_getElem?_getD]
      have XL := Aside0.mk (show x.length = 19 by rw [hxe, List.getD_eq_getElem?_getD, List.getElem?_eq_getElem c9]; exact HW.out _ (List.getElem_mem c9))
      have BJ := Aside0.mk (show j < b.length by rw [hbl]; exact c9)
      have BL := Aside0.mk hbl
      have BE := Aside0.mk hb
      have KK := Aside0.mk (show kk ≤ 20000000 by have := HKK.out; have := HLEN.out; omega)
      have HO0 := Aside0.mk (show (cellsK 19).R 131 wr w0.heap.size (fun k_ => (P0_ k_ ∨ w.heap.size ≤ k_)) (.slice (some ⟨g, 0, none⟩) l0.length c0_) (b.set j (mkRowC x kk (0))) by rw [mkc_base kk BJ.out hx, hb]; exact HO.out)
      have HB0 := HB
      have HK0 := HK
      obtain ⟨k0, hk0⟩ : ∃ k0, k0 = kk := ⟨_, rfl⟩
      rw [← hk0]
      have F0 := Aside0.mk (show k0 = kk + (0) by omega)
      have q1 : ((j : Int) < (l0.length : Int)) = True := eq_true (by omega)
      have q2 : (j < l0.length) = True := eq_true c9
      have q4 : (0 ≤ (j : Int)) = True := eq_true (by omega)
      have C9 := Aside0.mk c9
      clear hx hxe hbl c9 HO HB HK hk0 hb
      go_wp2_with (first | ((with_reducible refine gate_store (t := 3) (p := 17) (v := .tmp 15) rfl ?_); refine hx_putc (n := 19) (w0 := w0) w0.heap.size rfl rfl 3 (.tmp 17) (.tmp 15) rfl 131 j (0) (b.set j (mkRowC x kk (0))) (.int .i64 (k0 : Int)) (fun k_ => (P0_ k_ ∨ w.heap.size ≤ k_)) rfl (by first | rfl | omega) rfl rfl rfl (by kernel_rfl) (by omega) (by rw [List.length_set]; exact BL.out.symm) HO0.out (by rw [List.length_set]; exact BJ.out) HB0.out ?_; intro w1 ho_ hb_ hg_; have HO1 := Aside0.mk ho_; rw [mkc_step BJ.out (by rw [XL.out]; omega) (by rw [mkCell_int (by omega)]; congr 2; have := F0.out; omega)] at HO1; have HB1 := Aside0.mk hb_; have HK1 := Aside0.mk (Kept.of_grown (S := P0_) hg_ HK0.out (fun k_ e_ => by have h_ := HO0.out.1 k_ e_; exact h_)); clear ho_ hb_ hg_ HO0 HB0 HK0) | ((with_reducible refine gate_dst (N := 19) rfl ?_); refine hx_addn rfl 3 (.tmp 18) _ rfl k0 1 rfl rfl (by have := F0.out; have := KK.out; omega) ?_; intro k1 e_; have F1 := Aside0.mk (show k1 = kk + (1) by have := e_.out; have := F0.out; omega); clear e_) | ((with_reducible refine gate_dst (N := 23) rfl ?_); refine goesL_ (some 23) rfl rfl Tryd.func60 (by kernel_rfl) rfl #[.int .i64 (k1 : Int)] rfl (by (try simp only [List.map_toArray, List.map_cons, List.map_nil]); first | done | rfl) ?_; refine (markText_told k1 (by have := F1.out; have := KK.out; omega) _).mono ?_; rintro e_ wt ⟨rfl, b_⟩; refine ⟨_, rfl, ?_⟩; have HOt := Aside0.mk (Kd.R_below HO1.out b_); have HKt := Aside0.mk (Kept.below HK1.out b_); have HBt := Aside0.mk (below_then HB1.out HB1.out.size b_); clear b_ HO1 HK1 HB1; have HO1 := HOt; have HK1 := HKt; have HB1 := HBt; clear HOt HKt HBt) | ((with_reducible refine gate_store (t := 9) (p := 25) (v := .tmp 23) rfl ?_); refine hx_putc (n := 19) (w0 := w0) w0.heap.size rfl rfl 9 (.tmp 25) (.tmp 23) rfl 131 j (1) (b.set j (mkRowC x kk (1))) (.string (mT k1)) (fun k_ => (P0_ k_ ∨ w.heap.size ≤ k_)) rfl (by first | rfl | omega) rfl rfl rfl (by kernel_rfl) (by omega) (by rw [List.length_set]; exact BL.out.symm) HO1.out (by rw [List.length_set]; exact BJ.out) HB1.out ?_; intro w2 ho_ hb_ hg_; have HO2 := Aside0.mk ho_; rw [mkc_step BJ.out (by rw [XL.out]; omega) (by rw [mkCell_str]; congr 2; have := F1.out; omega)] at HO2; have HB2 := Aside0.mk hb_; have HK2 := Aside0.mk (Kept.of_grown (S := P0_) hg_ HK1.out (fun k_ e_ => by have h_ := HO1.out.1 k_ e_; exact h_)); clear ho_ hb_ hg_ HO1 HB1 HK1) | ((with_reducible refine gate_dst (N := 27) rfl ?_); refine hx_addn rfl 3 (.tmp 26) _ rfl k1 1 rfl rfl (by have := F1.out; have := KK.out; omega) ?_; intro k2 e_; have F2 := Aside0.mk (show k2 = kk + (2) by have := e_.out; have := F1.out; omega); clear e_) | ((with_reducible refine gate_store (t := 3) (p := 32) (v := .tmp 30) rfl ?_); refine hx_putc (n := 19) (w0 := w0) w0.heap.size rfl rfl 3 (.tmp 32) (.tmp 30) rfl 131 j (2) (b.set j (mkRowC x kk (2))) (.int .i64 (k2 : Int)) (fun k_ => (P0_ k_ ∨ w.heap.size ≤ k_)) rfl (by first | rfl | omega) rfl rfl rfl (by kernel_rfl) (by omega) (by rw [List.length_set]; exact BL.out.symm) HO2.out (by rw [List.length_set]; exact BJ.out) HB2.out ?_; intro w3 ho_ hb_ hg_; have HO3 := Aside0.mk ho_; rw [mkc_step BJ.out (by rw [XL.out]; omega) (by rw [mkCell_int (by omega)]; congr 2; have := F2.out; omega)] at HO3; have HB3 := Aside0.mk hb_; have HK3 := Aside0.mk (Kept.of_grown (S := P0_) hg_ HK2.out (fun k_ e_ => by have h_ := HO2.out.1 k_ e_; exact h_)); clear ho_ hb_ hg_ HO2 HB2 HK2) | ((with_reducible refine gate_dst (N := 34) rfl ?_); refine hx_addn rfl 3 (.tmp 33) _ rfl k2 1 rfl rfl (by have := F2.out; have := KK.out; omega) ?_; intro k3 e_; have F3 := Aside0.mk (show k3 = kk + (3) by have := e_.out; have := F2.out; omega); clear e_) | ((with_reducible refine gate_store (t := 3) (p := 39) (v := .tmp 37) rfl ?_); refine hx_putc (n := 19) (w0 := w0) w0.heap.size rfl rfl 3 (.tmp 39) (.tmp 37) rfl 131 j (3) (b.set j (mkRowC x kk (3))) (.int .i64 (k3 : Int)) (fun k_ => (P0_ k_ ∨ w.heap.size ≤ k_)) rfl (by first | rfl | omega) rfl rfl rfl (by kernel_rfl) (by omega) (by rw [List.length_set]; exact BL.out.symm) HO3.out (by rw [List.length_set]; exact BJ.out) HB3.out ?_; intro w4 ho_ hb_ hg_; have HO4 := Aside0.mk ho_; rw [mkc_step BJ.out (by rw [XL.out]; omega) (by rw [mkCell_int (by omega)]; congr 2; have := F3.out; omega)] at HO4; have HB4 := Aside0.mk hb_; have HK4 := Aside0.mk (Kept.of_grown (S := P0_) hg_ HK3.out (fun k_ e_ => by have h_ := HO3.out.1 k_ e_; exact h_)); clear ho_ hb_ hg_ HO3 HB3 HK3) | ((with_reducible refine gate_dst (N := 41) rfl ?_); refine hx_addn rfl 3 (.tmp 40) _ rfl k3 1 rfl rfl (by have := F3.out; have := KK.out; omega) ?_; intro k4 e_; have F4 := Aside0.mk (show k4 = kk + (4) by have := e_.out; have := F3.out; omega); clear e_) | ((with_reducible refine gate_store (t := 3) (p := 47) (v := .tmp 44) rfl ?_); refine hx_putc (n := 19) (w0 := w0) w0.heap.size rfl rfl 3 (.tmp 47) (.tmp 44) rfl 131 j (4) (b.set j (mkRowC x kk (4))) (.int .i64 (k4 : Int)) (fun k_ => (P0_ k_ ∨ w.heap.size ≤ k_)) rfl (by first | rfl | omega) rfl rfl rfl (by kernel_rfl) (by omega) (by rw [List.length_set]; exact BL.out.symm) HO4.out (by rw [List.length_set]; exact BJ.out) HB4.out ?_; intro w5 ho_ hb_ hg_; have HO5 := Aside0.mk ho_; rw [mkc_step BJ.out (by rw [XL.out]; omega) (by rw [mkCell_int (by omega)]; congr 2; have := F4.out; omega)] at HO5; have HB5 := Aside0.mk hb_; have HK5 := Aside0.mk (Kept.of_grown (S := P0_) hg_ HK4.out (fun k_ e_ => by have h_ := HO4.out.1 k_ e_; exact h_)); clear ho_ hb_ hg_ HO4 HB4 HK4) | ((with_reducible refine gate_dst (N := 49) rfl ?_); refine hx_addn rfl 3 (.tmp 48) _ rfl k4 1 rfl rfl (by have := F4.out; have := KK.out; omega) ?_; intro k5 e_; have F5 := Aside0.mk (show k5 = kk + (5) by have := e_.out; have := F4.out; omega); clear e_))
      (try simp only [Act.put, List.setIfInBounds_toArray, List.set_cons_succ, List.set_cons_zero])
      go_loopw [1, 6] (fun v1 v6 wq => ∃ (jj kq : Nat), v6 = .int .i64 (jj : Int) ∧ v1 = .int .i64 (kq : Int) ∧ Aside0 (jj ≤ 12) ∧ Aside0 (kq = kk + (5 + jj)) ∧ Aside0 ((cellsK 19).R 131 wq w0.heap.size (fun k_ => (P0_ k_ ∨ w.heap.size ≤ k_)) (.slice (some ⟨g, 0, none⟩) l0.length c0_) (b.set j (mkRowC x kk (5 + jj)))) ∧ Aside0 (Below w0.heap.size w0 wq) ∧ Aside0 (Kept w wq P0_)) (fun _ v6 _ => 12 - (intOf v6).toNat)
      case atStart => exact ⟨0, k5, rfl, rfl, ⟨by omega⟩, F5, HO5, HB5, HK5⟩
      case round =>
        clear HO5 HB5 HK5 F5
        obtain ⟨jj, kq, rfl, rfl, hjj, Fq, HOq, HBq, HKq⟩ := hrel
        by_cases c85 : jj < 12
        · have c85b0 : decide ((jj : Int) < 12) = true := decide_eq_true (by omega)
          have c85b1 : decide (jj < 12) = true := decide_eq_true c85
          have q6 : (0 ≤ (jj : Int)) = True := eq_true (by omega)
          have q7 : ((jj : Int) < 12) = True := eq_true (by omega)
          have q8 : (jj < 12) = True := eq_true c85
          go_wp2_with (first | ((with_reducible refine gate_store (t := 3) (p := 61) (v := .tmp 57) rfl ?_); refine hx_putc (n := 19) (w0 := w0) w0.heap.size rfl rfl 3 (.tmp 61) (.tmp 57) rfl 131 j (5 + jj) (b.set j (mkRowC x kk (5 + jj))) (.int .i64 (kq : Int)) (fun k_ => (P0_ k_ ∨ w.heap.size ≤ k_)) rfl (by first | rfl | omega) rfl rfl rfl (by kernel_rfl) (by omega) (by rw [List.length_set]; exact BL.out.symm) HOq.out (by rw [List.length_set]; exact BJ.out) HBq.out ?_; intro wqn ho_ hb_ hg_; have HOqn := Aside0.mk ho_; rw [mkc_step BJ.out (by rw [XL.out]; omega) (by rw [mkCell_int (by omega)]; congr 2; have := Fq.out; omega)] at HOqn; have HBqn := Aside0.mk hb_; have HKqn := Aside0.mk (Kept.of_grown (S := P0_) hg_ HKq.out (fun k_ e_ => by have h_ := HOq.out.1 k_ e_; exact h_)); clear ho_ hb_ hg_ HOq HBq HKq) | ((with_reducible refine gate_dst (N := 63) rfl ?_); refine hx_addn rfl 3 (.tmp 62) _ rfl kq 1 rfl rfl (by have := Fq.out; have := KK.out; omega) ?_; intro kqn e_; have Fqn := Aside0.mk (show kqn = kk + (5 + (jj + 1)) by have := e_.out; have := Fq.out; omega); clear e_))
          go_roundw
          case rel => exact ⟨jj + 1, kqn, by first | rw [show wrap64 ((jj : Int) + 1) = ((jj + 1 : Nat) : Int) by unfold wrap64; omega] | (simp; done), rfl, ⟨by omega⟩, Fqn, HOqn, HBqn, HKqn⟩
          case measure =>
            (try rw [show wrap64 ((jj : Int) + 1) = ((jj + 1 : Nat) : Int) by unfold wrap64; omega])
            simp only [intOf]
            omega
        · obtain rfl : jj = 12 := by have := hjj.out; omega
          have c85b0 : decide ((12 : Int) < 12) = false := by decide
          have HO17 := HOq
          have HB17 := HBq
          have HK17 := HKq
          have F17 := Fq
          obtain ⟨k17, hk17⟩ : ∃ k17, k17 = kq := ⟨_, rfl⟩
          rw [← hk17] at F17
          rw [← hk17]
          clear HOq HBq HKq Fq c85 hk17
          go_wp2_with (first | ((with_reducible refine gate_store (t := 3) (p := 69) (v := .tmp 66) rfl ?_); refine hx_putc (n := 19) (w0 := w0) w0.heap.size rfl rfl 3 (.tmp 69) (.tmp 66) rfl 131 j (17) (b.set j (mkRowC x kk (17))) (.int .i64 (k17 : Int)) (fun k_ => (P0_ k_ ∨ w.heap.size ≤ k_)) rfl (by first | rfl | omega) rfl rfl rfl (by kernel_rfl) (by omega) (by rw [List.length_set]; exact BL.out.symm) HO17.out (by rw [List.length_set]; exact BJ.out) HB17.out ?_; intro w18 ho_ hb_ hg_; have HO18 := Aside0.mk ho_; rw [mkc_step BJ.out (by rw [XL.out]; omega) (by rw [mkCell_int (by omega)]; congr 2; have := F17.out; omega)] at HO18; have HB18 := Aside0.mk hb_; have HK18 := Aside0.mk (Kept.of_grown (S := P0_) hg_ HK17.out (fun k_ e_ => by have h_ := HO17.out.1 k_ e_; exact h_)); clear ho_ hb_ hg_ HO17 HB17 HK17) | ((with_reducible refine gate_dst (N := 71) rfl ?_); refine hx_addn rfl 3 (.tmp 70) _ rfl k17 1 rfl rfl (by have := F17.out; have := KK.out; omega) ?_; intro k18 e_; have F18 := Aside0.mk (show k18 = kk + (18) by have := e_.out; have := F17.out; omega); clear e_) | ((with_reducible refine gate_store (t := 3) (p := 77) (v := .tmp 74) rfl ?_); refine hx_putc (n := 19) (w0 := w0) w0.heap.size rfl rfl 3 (.tmp 77) (.tmp 74) rfl 131 j (18) (b.set j (mkRowC x kk (18))) (.int .i64 (k18 : Int)) (fun k_ => (P0_ k_ ∨ w.heap.size ≤ k_)) rfl (by first | rfl | omega) rfl rfl rfl (by kernel_rfl) (by omega) (by rw [List.length_set]; exact BL.out.symm) HO18.out (by rw [List.length_set]; exact BJ.out) HB18.out ?_; intro w19 ho_ hb_ hg_; have HO19 := Aside0.mk ho_; rw [mkc_step BJ.out (by rw [XL.out]; omega) (by rw [mkCell_int (by omega)]; congr 2; have := F18.out; omega)] at HO19; have HB19 := Aside0.mk hb_; have HK19 := Aside0.mk (Kept.of_grown (S := P0_) hg_ HK18.out (fun k_ e_ => by have h_ := HO18.out.1 k_ e_; exact h_)); clear ho_ hb_ hg_ HO18 HB18 HK18) | ((with_reducible refine gate_dst (N := 79) rfl ?_); refine hx_addn rfl 3 (.tmp 78) _ rfl k18 1 rfl rfl (by have := F18.out; have := KK.out; omega) ?_; intro k19 e_; have F19 := Aside0.mk (show k19 = kk + (19) by have := e_.out; have := F18.out; omega); clear e_))
          go_roundw
          case rel =>
            refine ⟨j + 1, k19, _, rfl, by rw [show wrap64 ((j : Int) + 1) = ((j + 1 : Nat) : Int) by (have := HLEN.out; have := C9.out; unfold wrap64; omega)], rfl, ⟨by have := C9.out; omega⟩, ⟨by have := F19.out; have := HKK.out; omega⟩, ⟨?_⟩, HB19, HK19⟩
            have h_ := HO19.out
            rw [mkRowC_full XL.out, BE.out, HKK.out, marksC_next l0 j C9.out] at h_
            exact h_
          case measure =>
            rw [show wrap64 ((j : Int) + 1) = ((j + 1 : Nat) : Int) by (have := HLEN.out; have := C9.out; unfold wrap64; omega)]
            simp only [intOf, Int.toNat_natCast]
            have := C9.out
            omega
    · obtain rfl : j = l0.length := by have := hj.out; omega
      have c9b0 : decide ((l0.length : Int) < (l0.length : Int)) = false := decide_eq_false (by omega)
      have c9b1 : decide (l0.length < l0.length) = false := decide_eq_false c9
      clear c9
      go_wp2
      go_ret
      have h_ := HO.out
      rw [List.drop_eq_nil_of_le (Nat.le_refl _), List.append_nil] at h_
      refine ⟨by have h2_ := HKK.out; subst h2_; rfl, h_, HB.out, HK.out⟩
set_option maxHeartbeats 8000000 in
set_option maxRecDepth 100000 in
theorem heldSnapS_told (A0 : Option Addr) (c0 n : Nat) (w : World) (hl : n ≤ 1048576) (hr0 : Kd.C (cellsK 19) w A0 n (marksC n)) :
    Calls Tryd.prog 41 #[.slice A0 n c0, .int .i64 1] w fun e w' => e = .returned (.int .i64 ((1 + 19 * n : Nat) : Int)) ∧ Below w.heap.size w w' := by
  have HLEN := Aside0.mk hl
  have HR0 := Aside0.mk hr0
  have HB := Aside0.mk (Below.refl w.heap.size w)
  clear hl hr0
  go_enter Tryd.func41, Tryd.ntmps41
  go_wp2
  (try simp only [Act.put, List.setIfInBounds_toArray, List.set_cons_succ, List.set_cons_zero])
  go_loopw [1, 5, 6] (fun v1 v5 v6 wr => ∃ (j kk : Nat) (u6 : Value), u6 = v6 ∧ v5 = .int .i64 (j : Int) ∧ v1 = .int .i64 (kk : Int) ∧ Aside0 (j ≤ n) ∧ Aside0 (kk = 1 + 19 * j) ∧ Aside0 (Below w.heap.size w wr)) (fun _ v5 _ _ => n - (intOf v5).toNat)
  case atStart => exact ⟨0, 1, _, rfl, rfl, rfl, ⟨Nat.zero_le _⟩, ⟨rfl⟩, HB⟩
  case round =>
    clear HB
    obtain ⟨j, kk, v6, rfl, rfl, rfl, hj, HKK, HB⟩ := hrel
    by_cases c9 : j < n
    · have c9b0 : decide ((j : Int) < (n : Int)) = true := decide_eq_true (by omega)
      have c9b1 : decide (j < n) = true := decide_eq_true c9
      obtain ⟨ad, ea, hl, hc⟩ := cl_at (Kd.C_below HR0.out HB.out) j c9
      subst ea
      have hc2 : ∀ i, i < 19 → wr.cell? (ad.add (j * 19 + i)) = some (mkCell (1 + 19 * j) i) := fun i hi => hc i _ (marksC_at n j i c9 hi)
      have HC : Aside0 (wr.cell? (ad.add (j * 19)) = some (.int .i64 ((1 + 19 * j : Nat) : Int))) := ⟨hc2 0 (by decide)⟩
      have hc3 : ∀ i, 0 < i → i < 19 → wr.cell? ⟨(ad.add (j * 19)).block, (ad.add (j * 19)).off + i, none⟩ = some (mkCell (1 + 19 * j) i) := by
        intro i h0 hi
        have h_ := hc2 i hi
        rw [← Addr.add_add] at h_
        rw [show (ad.add (j * 19)).add i = ⟨(ad.add (j * 19)).block, (ad.add (j * 19)).off + i, none⟩ by rw [Addr.add, if_neg (by omega)]] at h_
        exact h_
      have HC2 : Aside0 (∀ i, 0 < i → i < 19 → i ≠ 1 → wr.cell? ⟨(ad.add (j * 19)).block, (ad.add (j * 19)).off + i, none⟩ = some (.int .i64 ((1 + 19 * j + i : Nat) : Int))) := ⟨fun i h0 hi h1 => by rw [hc3 i h0 hi, mkCell_int h1]⟩
      have HC1 : Aside0 (wr.cell? ⟨(ad.add (j * 19)).block, (ad.add (j * 19)).off + 1, none⟩ = some (.string (mT (1 + 19 * j + 1)))) := ⟨by rw [hc3 1 (by decide) (by decide), mkCell_str]⟩
      have KK := Aside0.mk (show kk ≤ 20000000 by have := HKK.out; have := HLEN.out; omega)
      obtain ⟨k0, hk0⟩ : ∃ k0, k0 = kk := ⟨_, rfl⟩
      rw [← hk0]
      have F0 := Aside0.mk (show k0 = kk + (0) by omega)
      have q1 : ((j : Int) < (n : Int)) = True := eq_true (by omega)
      have q2 : (j < n) = True := eq_true c9
      have q4 : (0 ≤ (j : Int)) = True := eq_true (by omega)
      have C9 := Aside0.mk c9
      clear hl hc hc2 hc3 c9 hk0
      go_upto_region 7 with (first | ((with_reducible refine gate_dst (N := 17) rfl ?_); refine hx_ld1 rfl 3 (.tmp 16) rfl _ rfl (.int .i64 (k0 : Int)) Tryd.underlying3 rfl (by have h_ := HC.out; rw [show 1 + 19 * j = k0 by (have h1_ := HKK.out; have h2_ := F0.out; omega)] at h_; first | exact h_ | (rw [show (ad.add (j * 19)).off + (5 + jj) = (ad.add (j * 19)).off + 4 + 1 + jj by omega] at h_; exact h_) | (rw [show (ad.add (j * 19)).off + (5 + jj) = (ad.add (j * 19)).off + 4 + 1 + jj * 1 by omega] at h_; exact h_)) ?_) | ((with_reducible refine gate_dst (N := 21) rfl ?_); refine hx_addn rfl 3 (.tmp 20) _ rfl k0 1 rfl rfl (by have := F0.out; have := KK.out; omega) ?_; intro k1 e_; have F1 := Aside0.mk (show k1 = kk + (1) by have := e_.out; have := F0.out; omega); clear e_))
      (try simp only [Act.put, List.setIfInBounds_toArray, List.set_cons_succ, List.set_cons_zero])
      have HS : Aside0 (∀ w_ : World, w_.heap[(ad.add (j * 19)).block]? = wr.heap[(ad.add (j * 19)).block]? → w_.cell? ⟨(ad.add (j * 19)).block, (ad.add (j * 19)).off + 1, none⟩ = some (.string (mT k1))) := ⟨fun w_ hw_ => by have h_ := HC1.out; rw [show 1 + 19 * j + 1 = k1 by (have h1_ := HKK.out; have h2_ := F1.out; omega)] at h_; simpa [World.cell?, hw_] using h_⟩
      have HLT : Aside0 ((ad.add (j * 19)).block < wr.heap.size) := ⟨World.block_lt_of_cell? wr _ HC.out⟩
      refine wp_region_held (S := fun w_ => Below wr.heap.size wr w_) (by kernel_rfl) ?_
      have SR : Aside0 (Below wr.heap.size wr wr.drew) := ⟨(Below.refl _ _).drew⟩
      refine wpAnyH_take (i := 0) (v := .slice (some ad) n c0) rfl (by kernel_rfl) (by kernel_rfl) (by kernel_rfl) (fun _ _ _ h => h) (.inl ⟨rfl, fun w_ hS_ => ?_⟩) SR.out ?_
      · unfold execOp
        go_simp
        (try rfl)
      simp only [List.getElem_toArray, List.getElem_cons_succ, List.getElem_cons_zero, Act.put, List.setIfInBounds_toArray, List.set_cons_succ, List.set_cons_zero]
      refine wpAnyH_take (i := 1) (v := .int .i64 (j : Int)) rfl (by kernel_rfl) (by kernel_rfl) (by kernel_rfl) (fun _ _ _ h => h) (.inl ⟨rfl, fun w_ hS_ => ?_⟩) SR.out ?_
      · unfold execOp
        go_simp
        (try rfl)
      simp only [List.getElem_toArray, List.getElem_cons_succ, List.getElem_cons_zero, Act.put, List.setIfInBounds_toArray, List.set_cons_succ, List.set_cons_zero]
      refine wpAnyH_take (i := 2) (v := .pointer (some (ad.add (j * 19)))) rfl (by kernel_rfl) (by kernel_rfl) (by kernel_rfl) (fun _ _ _ h => h) (.inl ⟨rfl, fun w_ hS_ => ?_⟩) SR.out ?_
      · unfold execOp
        go_simp
        (try rfl)
      simp only [List.getElem_toArray, List.getElem_cons_succ, List.getElem_cons_zero, Act.put, List.setIfInBounds_toArray, List.set_cons_succ, List.set_cons_zero]
      refine wpAnyH_take (i := 3) (v := .pointer (some ⟨(ad.add (j * 19)).block, (ad.add (j * 19)).off + 1, none⟩)) rfl (by kernel_rfl) (by kernel_rfl) (by kernel_rfl) (fun _ _ _ h => h) (.inl ⟨rfl, fun w_ hS_ => ?_⟩) SR.out ?_
      · unfold execOp
        go_simp
        (try rfl)
      simp only [List.getElem_toArray, List.getElem_cons_succ, List.getElem_cons_zero, Act.put, List.setIfInBounds_toArray, List.set_cons_succ, List.set_cons_zero]
      refine wpAnyH_take (i := 4) (v := .string (mT k1)) rfl (by kernel_rfl) (by kernel_rfl) (by kernel_rfl) (fun _ _ _ h => h) (.inl ⟨rfl, fun w_ hS_ => ?_⟩) SR.out ?_
      · exact ch_ldat (HS.out w_ (hS_.block _ HLT.out))
      simp only [List.getElem_toArray, List.getElem_cons_succ, List.getElem_cons_zero, Act.put, List.setIfInBounds_toArray, List.set_cons_succ, List.set_cons_zero]
      refine wpAnyH_take (i := 5) (v := .int .i64 (k1 : Int)) rfl (by kernel_rfl) (by kernel_rfl) (by kernel_rfl) (fun _ _ _ h => h) (.inl ⟨rfl, fun w_ hS_ => ?_⟩) SR.out ?_
      · unfold execOp
        go_simp
        (try rfl)
      simp only [List.getElem_toArray, List.getElem_cons_succ, List.getElem_cons_zero, Act.put, List.setIfInBounds_toArray, List.set_cons_succ, List.set_cons_zero]
      refine onlyH 6 (by kernel_rfl) ?_
      refine op_call rfl rfl Tryd.func60 (by kernel_rfl) rfl rfl #[.int .i64 (k1 : Int)] (by (try simp only [List.map_toArray, List.map_cons, List.map_nil]); first | done | rfl) ?_
      refine (markText_told k1 (by have := F1.out; have := KK.out; omega) _).mono ?_
      rintro e_ wt ⟨rfl, b_⟩
      have SR2 : Aside0 (Below wr.heap.size wr wt) := ⟨below_then SR.out SR.out.size b_⟩
      refine ⟨_, rfl, SR2.out, ?_⟩
      clear b_ SR
      have SR := SR2
      clear SR2
      simp only [List.getElem_toArray, List.getElem_cons_succ, List.getElem_cons_zero, Act.put, List.setIfInBounds_toArray, List.set_cons_succ, List.set_cons_zero]
      refine wpAnyH_take (i := 7) (v := .bool false) rfl (by kernel_rfl) (by kernel_rfl) (by kernel_rfl) (fun _ _ _ h => h) (.inl ⟨rfl, fun w_ hS_ => ?_⟩) SR.out ?_
      · unfold execOp
        go_simp
        (try rfl)
      simp only [List.getElem_toArray, List.getElem_cons_succ, List.getElem_cons_zero, Act.put, List.setIfInBounds_toArray, List.set_cons_succ, List.set_cons_zero]
      refine wpAnyH_done (by kernel_rfl) ?_ _
      have HBt : Aside0 (Below w.heap.size w wt) := ⟨below_then HB.out HB.out.size SR.out⟩
      have HC2t : Aside0 (∀ i, 0 < i → i < 19 → i ≠ 1 → wt.cell? ⟨(ad.add (j * 19)).block, (ad.add (j * 19)).off + i, none⟩ = some (.int .i64 ((1 + 19 * j + i : Nat) : Int))) := ⟨fun i h0 hi h1 => by have h_ := HC2.out i h0 hi h1; simpa [World.cell?, SR.out.block _ HLT.out] using h_⟩
      clear HC HC1 HC2 HS HLT SR HB
      have HC2 := HC2t
      have HB := HBt
      clear HC2t HBt
      obtain ⟨wu, rfl⟩ : ∃ x, x = wt := ⟨_, rfl⟩
      go_wp2_with (first | ((with_reducible refine gate_dst (N := 31) rfl ?_); refine hx_addn rfl 3 (.tmp 30) _ rfl k1 1 rfl rfl (by have := F1.out; have := KK.out; omega) ?_; intro k2 e_; have F2 := Aside0.mk (show k2 = kk + (2) by have := e_.out; have := F1.out; omega); clear e_) | ((with_reducible refine gate_dst (N := 36) rfl ?_); refine hx_ld1 rfl 3 (.tmp 35) rfl _ rfl (.int .i64 (k2 : Int)) Tryd.underlying3 rfl (by have h_ := HC2.out (2) (by omega) (by omega) (by omega); rw [show 1 + 19 * j + (2) = k2 by (have h1_ := HKK.out; have h2_ := F2.out; omega)] at h_; first | exact h_ | (rw [show (ad.add (j * 19)).off + (5 + jj) = (ad.add (j * 19)).off + 4 + 1 + jj by omega] at h_; exact h_) | (rw [show (ad.add (j * 19)).off + (5 + jj) = (ad.add (j * 19)).off + 4 + 1 + jj * 1 by omega] at h_; exact h_)) ?_) | ((with_reducible refine gate_dst (N := 40) rfl ?_); refine hx_addn rfl 3 (.tmp 39) _ rfl k2 1 rfl rfl (by have := F2.out; have := KK.out; omega) ?_; intro k3 e_; have F3 := Aside0.mk (show k3 = kk + (3) by have := e_.out; have := F2.out; omega); clear e_) | ((with_reducible refine gate_dst (N := 45) rfl ?_); refine hx_ld1 rfl 3 (.tmp 44) rfl _ rfl (.int .i64 (k3 : Int)) Tryd.underlying3 rfl (by have h_ := HC2.out (3) (by omega) (by omega) (by omega); rw [show 1 + 19 * j + (3) = k3 by (have h1_ := HKK.out; have h2_ := F3.out; omega)] at h_; first | exact h_ | (rw [show (ad.add (j * 19)).off + (5 + jj) = (ad.add (j * 19)).off + 4 + 1 + jj by omega] at h_; exact h_) | (rw [show (ad.add (j * 19)).off + (5 + jj) = (ad.add (j * 19)).off + 4 + 1 + jj * 1 by omega] at h_; exact h_)) ?_) | ((with_reducible refine gate_dst (N := 49) rfl ?_); refine hx_addn rfl 3 (.tmp 48) _ rfl k3 1 rfl rfl (by have := F3.out; have := KK.out; omega) ?_; intro k4 e_; have F4 := Aside0.mk (show k4 = kk + (4) by have := e_.out; have := F3.out; omega); clear e_) | ((with_reducible refine gate_dst (N := 55) rfl ?_); refine hx_ld1 rfl 3 (.tmp 54) rfl _ rfl (.int .i64 (k4 : Int)) Tryd.underlying3 rfl (by have h_ := HC2.out (4) (by omega) (by omega) (by omega); rw [show 1 + 19 * j + (4) = k4 by (have h1_ := HKK.out; have h2_ := F4.out; omega)] at h_; first | exact h_ | (rw [show (ad.add (j * 19)).off + (5 + jj) = (ad.add (j * 19)).off + 4 + 1 + jj by omega] at h_; exact h_) | (rw [show (ad.add (j * 19)).off + (5 + jj) = (ad.add (j * 19)).off + 4 + 1 + jj * 1 by omega] at h_; exact h_)) ?_) | ((with_reducible refine gate_dst (N := 59) rfl ?_); refine hx_addn rfl 3 (.tmp 58) _ rfl k4 1 rfl rfl (by have := F4.out; have := KK.out; omega) ?_; intro k5 e_; have F5 := Aside0.mk (show k5 = kk + (5) by have := e_.out; have := F4.out; omega); clear e_))
      (try simp only [Act.put, List.setIfInBounds_toArray, List.set_cons_succ, List.set_cons_zero])
      go_loopw [1, 6] (fun v1 v6 wq => ∃ (jj kq : Nat), v6 = .int .i64 (jj : Int) ∧ v1 = .int .i64 (kq : Int) ∧ wq = wu ∧ Aside0 (jj ≤ 12) ∧ Aside0 (kq = kk + (5 + jj))) (fun _ v6 _ => 12 - (intOf v6).toNat)
      case atStart => exact ⟨0, k5, rfl, rfl, rfl, ⟨by omega⟩, F5⟩
      case round =>
        clear F5
        obtain ⟨jj, kq, rfl, rfl, rfl, hjj, Fq⟩ := hrel
        by_cases c85 : jj < 12
        · have c85b0 : decide ((jj : Int) < 12) = true := decide_eq_true (by omega)
          have c85b1 : decide (jj < 12) = true := decide_eq_true c85
          have q6 : (0 ≤ (jj : Int)) = True := eq_true (by omega)
          have q7 : ((jj : Int) < 12) = True := eq_true (by omega)
          have q8 : (jj < 12) = True := eq_true c85
          go_wp2_with (first | ((with_reducible refine gate_dst (N := 71) rfl ?_); refine hx_ld1 rfl 3 (.tmp 70) rfl _ rfl (.int .i64 (kq : Int)) Tryd.underlying3 rfl (by have h_ := HC2.out (5 + jj) (by omega) (by omega) (by omega); rw [show 1 + 19 * j + (5 + jj) = kq by (have h1_ := HKK.out; have h2_ := Fq.out; omega)] at h_; first | exact h_ | (rw [show (ad.add (j * 19)).off + (5 + jj) = (ad.add (j * 19)).off + 4 + 1 + jj by omega] at h_; exact h_) | (rw [show (ad.add (j * 19)).off + (5 + jj) = (ad.add (j * 19)).off + 4 + 1 + jj * 1 by omega] at h_; exact h_)) ?_) | ((with_reducible refine gate_dst (N := 75) rfl ?_); refine hx_addn rfl 3 (.tmp 74) _ rfl kq 1 rfl rfl (by have := Fq.out; have := KK.out; omega) ?_; intro kqn e_; have Fqn := Aside0.mk (show kqn = kk + (5 + (jj + 1)) by have := e_.out; have := Fq.out; omega); clear e_))
          go_roundw
          case rel => exact ⟨jj + 1, kqn, by first | rw [show wrap64 ((jj : Int) + 1) = ((jj + 1 : Nat) : Int) by unfold wrap64; omega] | (simp; done), (by first | rfl | trivial), (by first | rfl | trivial), ⟨by omega⟩, Fqn⟩
          case measure =>
            (try rw [show wrap64 ((jj : Int) + 1) = ((jj + 1 : Nat) : Int) by unfold wrap64; omega])
            simp only [intOf]
            omega
        · obtain rfl : jj = 12 := by have := hjj.out; omega
          have c85b0 : decide ((12 : Int) < 12) = false := by decide
          have F17 := Fq
          obtain ⟨k17, hk17⟩ : ∃ k17, k17 = kq := ⟨_, rfl⟩
          rw [← hk17] at F17
          rw [← hk17]
          clear Fq c85 hk17
          go_wp2_with (first | ((with_reducible refine gate_dst (N := 81) rfl ?_); refine hx_ld1 rfl 3 (.tmp 80) rfl _ rfl (.int .i64 (k17 : Int)) Tryd.underlying3 rfl (by have h_ := HC2.out (17) (by omega) (by omega) (by omega); rw [show 1 + 19 * j + (17) = k17 by (have h1_ := HKK.out; have h2_ := F17.out; omega)] at h_; first | exact h_ | (rw [show (ad.add (j * 19)).off + (5 + jj) = (ad.add (j * 19)).off + 4 + 1 + jj by omega] at h_; exact h_) | (rw [show (ad.add (j * 19)).off + (5 + jj) = (ad.add (j * 19)).off + 4 + 1 + jj * 1 by omega] at h_; exact h_)) ?_) | ((with_reducible refine gate_dst (N := 85) rfl ?_); refine hx_addn rfl 3 (.tmp 84) _ rfl k17 1 rfl rfl (by have := F17.out; have := KK.out; omega) ?_; intro k18 e_; have F18 := Aside0.mk (show k18 = kk + (18) by have := e_.out; have := F17.out; omega); clear e_) | ((with_reducible refine gate_dst (N := 91) rfl ?_); refine hx_ld1 rfl 3 (.tmp 90) rfl _ rfl (.int .i64 (k18 : Int)) Tryd.underlying3 rfl (by have h_ := HC2.out (18) (by omega) (by omega) (by omega); rw [show 1 + 19 * j + (18) = k18 by (have h1_ := HKK.out; have h2_ := F18.out; omega)] at h_; first | exact h_ | (rw [show (ad.add (j * 19)).off + (5 + jj) = (ad.add (j * 19)).off + 4 + 1 + jj by omega] at h_; exact h_) | (rw [show (ad.add (j * 19)).off + (5 + jj) = (ad.add (j * 19)).off + 4 + 1 + jj * 1 by omega] at h_; exact h_)) ?_) | ((with_reducible refine gate_dst (N := 95) rfl ?_); refine hx_addn rfl 3 (.tmp 94) _ rfl k18 1 rfl rfl (by have := F18.out; have := KK.out; omega) ?_; intro k19 e_; have F19 := Aside0.mk (show k19 = kk + (19) by have := e_.out; have := F18.out; omega); clear e_))
          go_roundw
          case rel => exact ⟨j + 1, k19, _, rfl, by rw [show wrap64 ((j : Int) + 1) = ((j + 1 : Nat) : Int) by (have := HLEN.out; have := C9.out; unfold wrap64; omega)], rfl, ⟨by have := C9.out; omega⟩, ⟨by have := F19.out; have := HKK.out; omega⟩, HB⟩
          case measure =>
            rw [show wrap64 ((j : Int) + 1) = ((j + 1 : Nat) : Int) by (have := HLEN.out; have := C9.out; unfold wrap64; omega)]
            simp only [intOf, Int.toNat_natCast]
            have := C9.out
            omega
    · obtain rfl : j = n := by have := hj.out; omega
      have c9b0 : decide ((j : Int) < (j : Int)) = false := decide_eq_false (by omega)
      have c9b1 : decide (j < j) = false := decide_eq_false c9
      clear c9
      go_wp2
      go_ret
      refine ⟨by have h2_ := HKK.out; subst h2_; rfl, HB.out⟩
end Go.Proofs.YtknlpjoidjgciaaDoor.PFnExactSnapshots
