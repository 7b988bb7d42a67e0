/- FnTable: the law's walk. -/
import Derived.Test.YtkghgjehjchajaaTbf
import Derived.Test.YtkghgjehjchajaaTbt
import Derived.Test.YtkghgjehjchajaaPFnTablex10
import Derived.Test.YtkghgjehjchajaaPFnTablex9
import Derived.Test.YtkghgjehjchajaaPFnTablex8
import Derived.OrdersHeld
import Derived.Test.YtkghgjehjchajaaWTab3
namespace Go.Proofs.Ytkghgjehjchajaa.PFnTable
open Go.RowKit Go.Proofs.YtkghgjehjchajaaW.PrintWords Go.Proofs.YtkghgjehjchajaaW.PrintLast Go.Proofs.YtkghgjehjchajaaW.PrintMore
open Go.Proofs.YtkghgjehjchajaaW Go.Proofs.YtkghgjehjchajaaW.PrintHand Go.Proofs.YtkghgjehjchajaaW.PrintHx
open Go.Proofs.YtkghgjehjchajaaW.PrintEqW Go.Proofs.YtkghgjehjchajaaW.PrintTab2 Go.Proofs.YtkghgjehjchajaaW.PrintTab3
attribute [local go_sem] max2_int min2_int max_two min_two max_three min_three max_four min_four
set_option linter.unusedVariables false
set_option linter.unusedSimpArgs false
section
variable {P : Program} {ops : Array Oper} {o : Oper} {a : Act} {w : World}
theorem ch_lda {t : TypeId} {x : Operand} (ad : Addr) (L : List Int) (n : Nat) {d : TypeDesc} (ho : o.op = .load t x) (hx : a.eval x = .pointer (some ad)) (hu : P.underlying t = some d) (hd : (match d with | .struct _ | .array _ _ => true | _ => false) = true) (hi : (P.info? t).map (·.size) = some n) (hL : L.length = n)
    (hc : ∀ i, i < n → w.cell? (ad.add i) = some (.int .i64 (L.getD i 0))) : (execOp a.eval o).run P w = .ok (.value (.agg (nums .i64 L).toArray)) w := by
  unfold execOp
  simp only [ho, hx, Instr.loadAt, Instr.sureAddr, Sem.run_bind, Sem.run_pure, Result.andThen_ok, run_load_nums w t ad L n d hu hd hi hL hc]
theorem ch_neq {t n D : Nat} (x y : Operand) (u : TypeId) (ho : o.op = .binOp .neq t x y u) (h : EqW P t n D) (hD : D ≤ 10000) (hm : P.eqGuardType P.depth t = false)
    (la lb : List Int) (hx : a.eval x = .agg (nums .i64 la).toArray) (hy : a.eval y = .agg (nums .i64 lb).toArray) (ha : la.length = n) (hb : lb.length = n) (he : la = lb) : (execOp a.eval o).run P w = .ok (.value (.bool false)) w := by
  have hr := PrintTab2.neqw_binop h hD la lb w ha hb
  rw [decide_eq_true he] at hr
  have hg := run_eqGuard_agg (P := P) w .neq t x y (nums .i64 la).toArray (nums .i64 lb).toArray hm
  unfold execOp
  simp only [ho, hx, hy, Sem.run_bind, hg, hr, Result.andThen_ok, Sem.run_pure, Bool.not_true]
theorem ch_build {t : TypeId} (ps : Array (Nat × Operand)) (ho : o.op = .build t ps) (vs : Array (Nat × Value)) (hv : (ps.map fun (i, x) => (i, a.eval x)) = vs) (v : Value) (hr : ∀ w, (Instr.build t vs).run P w = .ok v w) : (execOp a.eval o).run P w = .ok (.value v) w := by
  unfold execOp
  simp only [ho, hv, Sem.run_bind, hr, Result.andThen_ok, Sem.run_pure]
end
set_option maxHeartbeats 8000000 in
set_option maxRecDepth 100000 in
theorem laws_FnTable.walk (A0 : Option Addr) (c0 : Nat) (l0 : List Int) (w : World) (hr0 : Kd.C (Kd.int .u8) w A0 l0.length l0) (hc0 : l0.length ≤ c0) (h0 : ¬ (l0.length : Int) > 1048576) (hTF : ∀ l : List (List Int), l.length ≤ 1100 → (∀ x ∈ l, x.length = 24) → TF l) :
    Calls Try.prog 9 #[.slice A0 l0.length c0] w fun e w' => e = .returned (.bool true) ∧ Below w.heap.size w w' := by
  have HR0 := Aside0.mk hr0
  have HC0 := Aside0.mk hc0
  have HT := Aside0.mk hTF
  have h0a : decide (1048576 < (l0.length : Int)) = false := decide_eq_false h0
  have h0b : decide (1048576 < l0.length) = false := decide_eq_false (by omega)
  have H0 : Aside0 (l0.length ≤ 1048576) := ⟨by omega⟩
  clear hr0 hc0 hTF h0
  have Z42 : ∀ w, (zeroValue 42).run Try.prog w = .ok (.agg (nums .i64 (List.replicate 24 0)).toArray) w := fun _ => by kernel_rfl
  have BZ : ∀ w, (Instr.build 42 #[]).run Try.prog w = .ok (.agg (nums .i64 zInode).toArray) w := fun w_ => run_build w_ 42 _ _ (by kernel_rfl)
  have HB := Aside0.mk (Below.refl w.heap.size w)
  go_enter Try.func9, Try.ntmps9
  go_wp2_with (first | ((with_reducible refine gate_dst (N := 20) rfl ?_); refine goesL_ (some 20) rfl rfl Try.func36 (by kernel_rfl) rfl #[.slice A0 l0.length c0] rfl (by (try simp only [List.map_toArray, List.map_cons, List.map_nil]); first | done | rfl) ?_; refine (Draw_any A0 c0 l0 w HR0.out HC0.out H0.out).mono ?_; rintro e_ wn ⟨vl, m, sl, rfl, ⟨l, rfl, ho_⟩, hm_, bn_⟩; refine ⟨_, rfl, ?_⟩; have X_ := Aside0.mk (bn_); clear HB; have HB := X_; clear X_; obtain ⟨Al, cl, rfl⟩ := Kd.R_slice ho_; have Cl := Aside0.mk (Kd.R_reads' ho_).2.2; have El := Aside0.mk (Kd.R_reads' ho_).2.1; clear ho_; have HL : Aside0 (l.length ≤ 1100) := ⟨hm_⟩; have HW := Aside0.mk (wide_len Cl.out); obtain ⟨B, c1, k, R, f1, f2, f3, f4, f5, f6⟩ := HT.out l hm_ HW.out; have F1 := Aside0.mk f1; have F2 := Aside0.mk f2; have F3 := Aside0.mk f3; have F4 := Aside0.mk f4; have F5 := Aside0.mk f5; have F6 := Aside0.mk f6; have y0 : (c1 != c1) = false := bne_self_eq_false _; clear f1 f2 f3 f4 f5 f6 hm_ bn_ HT) | ((with_reducible refine gate_dst (N := 22) rfl ?_); refine Kd.R_lit (PrintHx.wide 24) (w0 := wn) wn.heap.size 42 ?hg (N := 22) ?hd (xs := ([] : List (List Int))) (inner := []) (ok := fun _ => True) (okp := fun _ => True) ?hr ?hp (fun _ hk => hk) trivial (Below.refl _ _) (Nat.le_refl _) (by simp) ?_; (case hd => rfl); (case hg => rfl); (case hr => first | (go_simp; done) | (go_simp; rfl)); (case hp => exact (Reps.none _ _)); intro vm wm om_ bm_ hg_ hnew_; clear hg_ hnew_; (try simp only [Int.reduceToNat] at om_); have OM := Aside0.mk om_; have BM := Aside0.mk bm_; clear om_ bm_) | ((with_reducible refine gate_dst (N := 24) rfl ?_); refine Kd.R_append_rows (PrintHx.wide 24) (w0 := wn) wn.heap.size rfl (.tmp 22) (.tmp 23) 51 42 (.agg (nums .i64 (List.replicate 24 0)).toArray) 192 rfl Try.underlying51 info42 (by kernel_rfl) (by decide) (by omega) vm ([] : List (List Int)) l _ _ _ (fun _ => True) (fun _ => False) rfl rfl ?aO ?aR (fun _ _ h => h) (fun _ h => h.elim) ?aF ?aB ?aS ?aL ?_; (case aO => exact OM.out); (case aR => exact Kd.C_below Cl.out BM.out); (case aF => exact (fun _ _ => trivial)); (case aB => exact BM.out); (case aS => exact BM.out.size); (case aL => have := HL.out; simp only [List.length_nil]; omega); intro va wn ho_ bn_ hg_ hat_; clear hg_ hat_ OM BM; rw [List.nil_append] at ho_; have X_ := Aside0.mk (Kd.C_below Cl.out bn_); clear Cl; have Cl := X_; clear X_; have X_ := Aside0.mk (below_then HB.out HB.out.size bn_); clear HB; have HB := X_; clear X_; obtain ⟨Aa, ca, rfl⟩ := Kd.R_slice ho_; have Ca := Aside0.mk (Kd.R_reads' ho_).2.2; have Ea := Aside0.mk (Kd.R_reads' ho_).2.1; clear ho_; clear bn_) | ((with_reducible refine gate_dst (N := 25) rfl ?_); refine goesL_ (some 25) rfl rfl Try.func30 (by kernel_rfl) rfl #[.slice Aa l.length ca] rfl (by (try simp only [List.map_toArray, List.map_cons, List.map_nil]); first | done | rfl) ?_; refine (impl_EncodeTable.calls Aa ca l B c1 _ Ca.out Ea.out F1.out).mono ?_; rintro e_ wn ⟨v_, rfl, ho_, bn_⟩; refine ⟨_, rfl, ?_⟩; have X_ := Aside0.mk (Kd.C_below Cl.out bn_); clear Cl; have Cl := X_; clear X_; have X_ := Aside0.mk (Kd.C_below Ca.out bn_); clear Ca; have Ca := X_; clear X_; have X_ := Aside0.mk (below_then HB.out HB.out.size bn_); clear HB; have HB := X_; clear X_; obtain ⟨AB, cB, rfl⟩ := Kd.R_slice ho_; have CB := Aside0.mk (Kd.R_reads' ho_).2.2; have EB := Aside0.mk (Kd.R_reads' ho_).2.1; clear ho_; clear bn_) | ((with_reducible refine gate_dst (N := 30) rfl ?_); refine goesL_ (some 30) rfl rfl Try.func28 (by kernel_rfl) rfl #[.slice Al l.length cl] rfl (by (try simp only [List.map_toArray, List.map_cons, List.map_nil]); first | done | rfl) ?_; refine (spec_EncodeTable.calls Al cl l B c1 _ Cl.out El.out F2.out).mono ?_; rintro e_ wn ⟨v_, rfl, ho_, bn_⟩; refine ⟨_, rfl, ?_⟩; have X_ := Aside0.mk (Kd.C_below Cl.out bn_); clear Cl; have Cl := X_; clear X_; have X_ := Aside0.mk (Kd.C_below Ca.out bn_); clear Ca; have Ca := X_; clear X_; have X_ := Aside0.mk (Kd.C_below CB.out bn_); clear CB; have CB := X_; clear X_; have X_ := Aside0.mk (below_then HB.out HB.out.size bn_); clear HB; have HB := X_; clear X_; obtain ⟨AS, cS, rfl⟩ := Kd.R_slice ho_; have CS := Aside0.mk (Kd.R_reads' ho_).2.2; have ES := Aside0.mk (Kd.R_reads' ho_).2.1; clear ho_; clear bn_) | ((with_reducible refine gate_dst (N := 36) rfl ?_); refine Kd.R_lit (PrintHx.wide 24) (w0 := wn) wn.heap.size 42 ?hg (N := 36) ?hd (xs := ([] : List (List Int))) (inner := []) (ok := fun _ => True) (okp := fun _ => True) ?hr ?hp (fun _ hk => hk) trivial (Below.refl _ _) (Nat.le_refl _) (by simp) ?_; (case hd => rfl); (case hg => rfl); (case hr => first | (go_simp; done) | (go_simp; rfl)); (case hp => exact (Reps.none _ _)); intro vm wm om_ bm_ hg_ hnew_; clear hg_ hnew_; (try simp only [Int.reduceToNat] at om_); have OM := Aside0.mk om_; have BM := Aside0.mk bm_; clear om_ bm_) | ((with_reducible refine gate_dst (N := 38) rfl ?_); refine Kd.R_append_rows (PrintHx.wide 24) (w0 := wn) wn.heap.size rfl (.tmp 36) (.tmp 37) 51 42 (.agg (nums .i64 (List.replicate 24 0)).toArray) 192 rfl Try.underlying51 info42 (by kernel_rfl) (by decide) (by omega) vm ([] : List (List Int)) l _ _ _ (fun _ => True) (fun _ => False) rfl rfl ?aO ?aR (fun _ _ h => h) (fun _ h => h.elim) ?aF ?aB ?aS ?aL ?_; (case aO => exact OM.out); (case aR => exact Kd.C_below Cl.out BM.out); (case aF => exact (fun _ _ => trivial)); (case aB => exact BM.out); (case aS => exact BM.out.size); (case aL => have := HL.out; simp only [List.length_nil]; omega); intro va wn ho_ bn_ hg_ hat_; clear hg_ hat_ OM BM; rw [List.nil_append] at ho_; have X_ := Aside0.mk (Kd.C_below Cl.out bn_); clear Cl; have Cl := X_; clear X_; have X_ := Aside0.mk (Kd.C_below Ca.out bn_); clear Ca; have Ca := X_; clear X_; have X_ := Aside0.mk (Kd.C_below CB.out bn_); clear CB; have CB := X_; clear X_; have X_ := Aside0.mk (Kd.C_below CS.out bn_); clear CS; have CS := X_; clear X_; have X_ := Aside0.mk (below_then HB.out HB.out.size bn_); clear HB; have HB := X_; clear X_; obtain ⟨Ab, cb, rfl⟩ := Kd.R_slice ho_; have Cb := Aside0.mk (Kd.R_reads' ho_).2.2; have Eb := Aside0.mk (Kd.R_reads' ho_).2.1; clear ho_; clear bn_) | ((with_reducible refine gate_dst (N := 39) rfl ?_); refine goesL_ (some 39) rfl rfl Try.func37 (by kernel_rfl) rfl #[.slice Ab l.length cb] rfl (by (try simp only [List.map_toArray, List.map_cons, List.map_nil]); first | done | rfl) ?_; refine (impl_LowestInode.calls Ab cb l k _ Cb.out Eb.out F3.out).mono ?_; rintro e_ wn ⟨rfl, dn_⟩; refine ⟨_, rfl, ?_⟩; have bn_ := kept_drawn dn_; clear dn_; have X_ := Aside0.mk (Kd.C_below Cl.out bn_); clear Cl; have Cl := X_; clear X_; have X_ := Aside0.mk (Kd.C_below Ca.out bn_); clear Ca; have Ca := X_; clear X_; have X_ := Aside0.mk (Kd.C_below CB.out bn_); clear CB; have CB := X_; clear X_; have X_ := Aside0.mk (Kd.C_below CS.out bn_); clear CS; have CS := X_; clear X_; have X_ := Aside0.mk (Kd.C_below Cb.out bn_); clear Cb; have Cb := X_; clear X_; have X_ := Aside0.mk (below_then HB.out HB.out.size bn_); clear HB; have HB := X_; clear X_; clear bn_))
  (try simp only [Act.put, List.setIfInBounds_toArray, List.set_cons_succ, List.set_cons_zero])
  clear Ca Ea
  clear CS ES
  clear Cb Eb
  go_loopg [9] l.length (fun kq v9 wr => ∃ (i nd : Nat), v9 = .int .i64 (i : Int) ∧ Aside0 (2 ≤ i) ∧ Aside0 (i ≤ 2 + l.length ∧ 2 + l.length ≤ kq + i) ∧ Aside0 (wr = wn.drewN nd))
  case atStart => exact ⟨2, 0, rfl, ⟨by omega⟩, ⟨by omega⟩, ⟨rfl⟩⟩
  case round =>
    obtain ⟨i, nd, rfl, hi2, hki, hwr⟩ := hrel
    obtain ⟨wq, rfl⟩ : ∃ x, x = wr := ⟨_, rfl⟩
    have hw_ : wrap64 ((i : Int) + 1) = ((i + 1 : Nat) : Int) := by (have := HL.out; have := hki.out; unfold wrap64; omega)
    have hsp : (i < l.length ∧ (i : Int) < k) ∨ (decide ((i : Int) < (l.length : Int)) = true ∧ decide (i < l.length) = true ∧ decide ((i : Int) < k) = false) ∨ (decide ((i : Int) < (l.length : Int)) = false ∧ decide (i < l.length) = false) := by
      by_cases ci : i < l.length
      · by_cases ck : (i : Int) < k
        · exact .inl ⟨ci, ck⟩
        · exact .inr (.inl ⟨decide_eq_true (by omega), decide_eq_true ci, decide_eq_false ck⟩)
      · exact .inr (.inr ⟨decide_eq_false (by omega), decide_eq_false ci⟩)
    rcases hsp with ⟨ci, ck⟩ | ⟨ci0, ci1, ck0⟩ | ⟨ci0, ci1⟩
    · have ci0 : decide ((i : Int) < (l.length : Int)) = true := decide_eq_true (by omega)
      have ci1 : decide (i < l.length) = true := decide_eq_true ci
      have ci2 : ((i : Int) < (l.length : Int)) = True := eq_true (by omega)
      have ci3 : (0 ≤ (i : Int)) = True := eq_true (by omega)
      have ci4 : (i < l.length) = True := eq_true ci
      have CI := Aside0.mk ci
      clear ci
      have ck0 : decide ((i : Int) < k) = true := decide_eq_true ck
      have hne := F4.out i hi2.out CI.out ck
      obtain ⟨x, hx⟩ : ∃ x, x = (l.getD i []).getD 0 0 := ⟨_, rfl⟩
      have hCl : Kd.C (PrintHx.wide 24) wq Al l.length l := by rw [hwr.out]; exact Kd.C_drewN Cl.out nd
      obtain ⟨ad, ea, hl_, hc_⟩ := wide_at hCl i CI.out
      cases ea
      have hc0 := hc_ 0 (by omega)
      rw [← hx, Nat.add_zero] at hc0
      rw [← hx] at hne
      have cx : (x == 0) = false := beq_eq_false_iff_ne.mpr hne
      clear hx hl_ hc_ hCl hne ck
      go_wp2
      cases gk with
      | zero => exact absurd CI.out (by have := hki.out; omega)
      | succ gk =>
        go_roundg gk
        case measure => omega
        case rel => exact ⟨i + 1, nd, by rw [hw_], ⟨by have := hi2.out; omega⟩, ⟨by (have := CI.out; have := hki.out; omega)⟩, hwr⟩
    all_goals (
      have bn_ : Below wn.heap.size wn wq := by rw [hwr.out]; exact pw_below_drewN (Below.refl _ _) nd
      have X_ := Aside0.mk (Kd.C_below Cl.out bn_)
      clear Cl
      have Cl := X_
      clear X_
      have X_ := Aside0.mk (Kd.C_below CB.out bn_)
      clear CB
      have CB := X_
      clear X_
      have X_ := Aside0.mk (below_then HB.out HB.out.size bn_)
      clear HB
      have HB := X_
      clear X_
      clear bn_ hwr hki hi2
      go_upto_region 14 with (fail)
      go_cut [80] (fun v80 wc => v80 = .bool false ∧ Aside0 (Below wq.heap.size wq wc))
      case first =>
        rcases F5.out with hk0 | ⟨q, hkq, hq1, hq2, hq3⟩ | ⟨q, hkq, hq1, hq2, hq3, hq4⟩
        · skip
          subst hk0
          go_wp2
          go_meet
          case rel => exact ⟨by first | rfl | (simp; done) | (simp [*]; done), ⟨pw_below_drewN (Below.refl _ _) 0⟩⟩
        · skip
          subst hkq
          have kq0 : ((q : Int) != 0) = true := bne_iff_ne.mpr (by omega)
          have kq1 : decide ((q : Int) < 2) = false := decide_eq_false (by omega)
          have kq2 : decide (q < 2) = false := decide_eq_false (by omega)
          have kq3 : decide (1000 < (q : Int)) = false := decide_eq_false (by omega)
          have kq4 : decide (1000 < q) = false := decide_eq_false (by omega)
          have kq7 : decide ((q : Int) < (l.length : Int)) = false := decide_eq_false (by omega)
          have kq8 : decide (q < l.length) = false := decide_eq_false (by omega)
          clear hq1 hq2 hq3
          go_wp2
          go_meet
          case rel => exact ⟨by first | rfl | (simp; done) | (simp [*]; done), ⟨pw_below_drewN (Below.refl _ _) 0⟩⟩
        · skip
          subst hkq
          have kq0 : ((q : Int) != 0) = true := bne_iff_ne.mpr (by omega)
          have kq1 : decide ((q : Int) < 2) = false := decide_eq_false (by omega)
          have kq2 : decide (q < 2) = false := decide_eq_false (by omega)
          have kq3 : decide (1000 < (q : Int)) = false := decide_eq_false (by omega)
          have kq4 : decide (1000 < q) = false := decide_eq_false (by omega)
          have kq7 : decide ((q : Int) < (l.length : Int)) = true := decide_eq_true (by omega)
          have kq8 : decide (q < l.length) = true := decide_eq_true (by omega)
          obtain ⟨adq, eaq, hlq, hcq⟩ := wide_at Cl.out q hq3
          cases eaq
          have hcq0 := hcq 0 (by omega)
          rw [hq4, Nat.add_zero] at hcq0
          have kq9 : ((q : Int) < (l.length : Int)) = True := eq_true (by omega)
          have kqa : (0 ≤ (q : Int)) = True := eq_true (by omega)
          have kqb : (q < l.length) = True := eq_true hq3
          clear hlq hcq hq4
          clear hq1 hq2 hq3
          go_wp2
          go_meet
          case rel => exact ⟨by first | rfl | (simp; done) | (simp [*]; done), ⟨pw_below_drewN (Below.refl _ _) 0⟩⟩
      case rest =>
        obtain ⟨rfl, hbc⟩ := hcut
        obtain ⟨wn, rfl⟩ : ∃ x, x = wc := ⟨_, rfl⟩
        have bn_ := hbc.out
        have X_ := Aside0.mk (Kd.C_below Cl.out bn_)
        clear Cl
        have Cl := X_
        clear X_
        have X_ := Aside0.mk (Kd.C_below CB.out bn_)
        clear CB
        have CB := X_
        clear X_
        have X_ := Aside0.mk (below_then HB.out HB.out.size bn_)
        clear HB
        have HB := X_
        clear X_
        clear bn_ hbc
        rcases F6.out with ⟨e7, hb7⟩ | ⟨e7, g1, g2, g3, g4, g5, g6, g7⟩
        · subst e7
          rcases F5.out with hk0 | hk
          · subst hk0
            have hb8 : decide (1000 < (l.length : Int)) = true := decide_eq_true (by omega)
            have hb9 : decide (1000 < l.length) = true := decide_eq_true (by omega)
            clear hb7
            go_wp2
            go_ret
            exact ⟨rfl, HB.out⟩
          · have hk1 : 0 < k := by (rcases hk with ⟨q, h1, h2, _⟩ | ⟨q, h1, h2, _⟩ <;> omega)
            have hk2 : decide (0 < k) = true := decide_eq_true hk1
            clear hb7 hk hk1
            go_wp2
            go_ret
            exact ⟨rfl, HB.out⟩
        · subst e7
          have G1 := Aside0.mk g1
          have G2 := Aside0.mk g2
          have G3 := Aside0.mk g3
          have G4 := Aside0.mk g4
          have G5 := Aside0.mk g5
          have G6 := Aside0.mk g6
          have G7 := Aside0.mk g7
          clear g1 g2 g3 g4 g5 g6 g7
          go_wp2_with (first | ((with_reducible refine gate_dst (N := 92) rfl ?_); refine goesL_ (some 92) rfl rfl Try.func38 (by kernel_rfl) rfl #[.slice AB B.length cB] rfl (by (try simp only [List.map_toArray, List.map_cons, List.map_nil]); first | done | rfl) ?_; refine (laws_cp.calls AB cB B B _ CB.out EB.out G1.out).mono ?_; rintro e_ wn ⟨v_, rfl, ho_, bn_⟩; refine ⟨_, rfl, ?_⟩; have X_ := Aside0.mk (Kd.C_below Cl.out bn_); clear Cl; have Cl := X_; clear X_; have X_ := Aside0.mk (Kd.C_below CB.out bn_); clear CB; have CB := X_; clear X_; have X_ := Aside0.mk (below_then HB.out HB.out.size bn_); clear HB; have HB := X_; clear X_; obtain ⟨AP, cP, rfl⟩ := Kd.R_slice ho_; have CP := Aside0.mk (Kd.R_reads' ho_).2.2; have EP := Aside0.mk (Kd.R_reads' ho_).2.1; clear ho_; clear bn_) | ((with_reducible refine gate_dst (N := 93) rfl ?_); refine goesL_ (some 93) rfl rfl Try.func34 (by kernel_rfl) rfl #[.slice AP B.length cP] rfl (by (try simp only [List.map_toArray, List.map_cons, List.map_nil]); first | done | rfl) ?_; refine (impl_DecodeTable.calls AP cP B R 0 _ CP.out EP.out G2.out).mono ?_; rintro e_ wn ⟨v_, rfl, ho_, bn_⟩; refine ⟨_, rfl, ?_⟩; have X_ := Aside0.mk (Kd.C_below Cl.out bn_); clear Cl; have Cl := X_; clear X_; have X_ := Aside0.mk (Kd.C_below CB.out bn_); clear CB; have CB := X_; clear X_; have X_ := Aside0.mk (Kd.C_below CP.out bn_); clear CP; have CP := X_; clear X_; have X_ := Aside0.mk (below_then HB.out HB.out.size bn_); clear HB; have HB := X_; clear X_; obtain ⟨AR, cR, rfl⟩ := Kd.R_slice ho_; have CR := Aside0.mk (Kd.R_reads' ho_).2.2; have ER := Aside0.mk (Kd.R_reads' ho_).2.1; clear ho_; clear bn_) | ((with_reducible refine gate_dst (N := 98) rfl ?_); refine goesL_ (some 98) rfl rfl Try.func30 (by kernel_rfl) rfl #[.slice AR R.length cR] rfl (by (try simp only [List.map_toArray, List.map_cons, List.map_nil]); first | done | rfl) ?_; refine (impl_EncodeTable.calls AR cR R B 0 _ CR.out ER.out G3.out).mono ?_; rintro e_ wn ⟨v_, rfl, ho_, bn_⟩; refine ⟨_, rfl, ?_⟩; have X_ := Aside0.mk (Kd.C_below Cl.out bn_); clear Cl; have Cl := X_; clear X_; have X_ := Aside0.mk (Kd.C_below CB.out bn_); clear CB; have CB := X_; clear X_; have X_ := Aside0.mk (Kd.C_below CP.out bn_); clear CP; have CP := X_; clear X_; have X_ := Aside0.mk (Kd.C_below CR.out bn_); clear CR; have CR := X_; clear X_; have X_ := Aside0.mk (below_then HB.out HB.out.size bn_); clear HB; have HB := X_; clear X_; obtain ⟨AQ, cQ, rfl⟩ := Kd.R_slice ho_; have CQ := Aside0.mk (Kd.R_reads' ho_).2.2; have EQ := Aside0.mk (Kd.R_reads' ho_).2.1; clear ho_; clear bn_) | ((with_reducible refine gate_dst (N := 110) rfl ?_); refine Go.Proofs.YtkghgjehjchajaaW.PrintTab2.ungd (by rfl) ?_; refine goesL_ (some 110) rfl rfl Try.func39 (by kernel_rfl) rfl #[.slice AQ B.length cQ, .slice AB B.length cB] rfl (by (try simp only [List.map_toArray, List.map_cons, List.map_nil]); first | done | rfl) ?_; refine (laws_smBytes.calls AQ cQ B AB cB B true _ CQ.out EQ.out CB.out EB.out G4.out).mono ?_; rintro e_ wn ⟨rfl, dn_⟩; refine ⟨_, rfl, ?_⟩; have bn_ := kept_drawn dn_; clear dn_; have X_ := Aside0.mk (Kd.C_below Cl.out bn_); clear Cl; have Cl := X_; clear X_; have X_ := Aside0.mk (Kd.C_below CB.out bn_); clear CB; have CB := X_; clear X_; have X_ := Aside0.mk (Kd.C_below CP.out bn_); clear CP; have CP := X_; clear X_; have X_ := Aside0.mk (Kd.C_below CR.out bn_); clear CR; have CR := X_; clear X_; have X_ := Aside0.mk (Kd.C_below CQ.out bn_); clear CQ; have CQ := X_; clear X_; have X_ := Aside0.mk (below_then HB.out HB.out.size bn_); clear HB; have HB := X_; clear X_; clear bn_))
          (try simp only [Act.put, List.setIfInBounds_toArray, List.set_cons_succ, List.set_cons_zero])
          go_loopg [115] R.length (fun kq v115 wr => ∃ i : Nat, v115 = .int .i64 (i : Int) ∧ Aside0 (kq + i = R.length) ∧ Aside0 (Below wn.heap.size wn wr))
          case atStart => exact ⟨0, rfl, ⟨by simp⟩, ⟨Below.refl _ _⟩⟩
          case round =>
            obtain ⟨i, rfl, hki, hbw⟩ := hrel
            obtain ⟨wq, rfl⟩ : ∃ x, x = wr := ⟨_, rfl⟩
            by_cases ci : i < R.length
            case pos =>
              have hw_ : wrap64 ((i : Int) + 1) = ((i + 1 : Nat) : Int) := by (have := G5.out; unfold wrap64; omega)
              have ci0 : decide ((i : Int) < (R.length : Int)) = true := decide_eq_true (by omega)
              have ci1 : decide (i < R.length) = true := decide_eq_true ci
              have ci2 : ((i : Int) < (R.length : Int)) = True := eq_true (by omega)
              have ci3 : (0 ≤ (i : Int)) = True := eq_true (by omega)
              have ci4 : (i < R.length) = True := eq_true ci
              have CI := Aside0.mk ci
              clear ci
              have CR2 := Aside0.mk (Kd.C_below CR.out hbw.out)
              have Cl2 := Aside0.mk (Kd.C_below Cl.out hbw.out)
              obtain ⟨adr, ear, hlr, hcr⟩ := wide_at CR2.out i CI.out
              cases ear
              have HCR := Aside0.mk hcr
              obtain ⟨x, hx⟩ : ∃ x, x = R.getD i [] := ⟨_, rfl⟩
              have HX := Aside0.mk hx
              have NX : Aside0 (x.length = 24) := ⟨by rw [hx]; exact hlr⟩
              clear hlr hcr hx
              obtain ⟨s1, Sz_⟩ : ∃ s, Aside0 (wq.heap.size = s) := ⟨_, ⟨rfl⟩⟩
              go_upto_region 25 with (first | ((with_reducible refine gate_dst (N := 119) rfl ?_); refine hx_load_at rfl 42 (.tmp 118) rfl (adr.add (i * 24)) rfl x 24 Try.underlying42 rfl (by kernel_rfl) NX.out (fun j hj => by rw [Addr.add_add, HX.out]; exact HCR.out j hj) ?_) | ((with_reducible refine gate_dst (N := 15) rfl ?_); refine hx_alloc rfl 15 rfl 42 rfl Sz_ (.agg (nums .i64 (List.replicate 24 0)).toArray) (nums .i64 (List.replicate 24 0)).toArray Z42 rfl ?_; intro wa s2 Ls_ Sn_ ba_ ga_; clear Ls_ Sn_) | ((with_reducible refine gate_store (t := 42) (p := 15) (v := .tmp 119) rfl ?_); refine hx_store rfl rfl 42 (.tmp 15) (.tmp 119) rfl s1 24 rfl (nums .i64 x).toArray rfl (by kernel_rfl) (nums_size _ _ _ NX.out) (nums_one _ _) ga_ (by simp [nums]) ?_; intro wt tt_ gt_; have BT : Aside0 (Below wq.heap.size wq wt) := ⟨tt_.below ba_ (Nat.le_of_eq Sz_.out)⟩; have GT := Aside0.mk gt_; clear tt_ gt_ ba_ ga_))
              have CT := Aside0.mk (Kd.C_drew (Kd.C_below Cl2.out BT.out))
              have HGX : Aside0 (∀ j, j < 24 → (wt.drew).cell? ((⟨s1, 0, none⟩ : Addr).add j) = some (.int .i64 (x.getD j 0))) := ⟨fun j hj => by (have hn := NX.out; rw [show (⟨s1, 0, none⟩ : Addr).add j = ⟨s1, j, none⟩ by (unfold Addr.add; split <;> simp_all)]; exact row_cell (W := wt.drew) GT.out j (by omega))⟩
              by_cases cl_ : i < l.length
              case pos =>
                have d0 : decide ((i : Int) < (l.length : Int)) = true := decide_eq_true (by omega)
                have d1 : decide (i < l.length) = true := decide_eq_true cl_
                have d2 : decide ((l.length : Int) ≤ (i : Int)) = false := decide_eq_false (by omega)
                have d3 : decide (l.length ≤ i) = false := decide_eq_false (by omega)
                have hxl := (G7.out i CI.out).1 cl_
                rw [← HX.out] at hxl
                obtain ⟨adl, eal, hll, hcl_⟩ := wide_at CT.out i cl_
                cases eal
                rw [hxl] at hcl_
                have HCL := Aside0.mk hcl_
                have d4 : ((i : Int) < (l.length : Int)) = True := eq_true (by omega)
                have d5 : (i < l.length) = True := eq_true cl_
                clear hxl hll hcl_
                clear cl_
                refine wp_region_held (S := fun w_ => w_ = wt.drew) (by kernel_rfl) ?_
                refine wpAnyH_take (i := 0) (v := .int .i64 (i : Int)) rfl (by kernel_rfl) (by kernel_rfl) (by kernel_rfl) (fun _ _ _ h => h) (.inl ⟨rfl, fun w_ hS_ => ?_⟩) rfl ?_
                · subst hS_
                  unfold execOp
                  go_simp
                  (try first | rfl | (simp only [*]; done))
                simp only [List.getElem_toArray, List.getElem_cons_succ, List.getElem_cons_zero, Act.put, List.setIfInBounds_toArray, List.set_cons_succ, List.set_cons_zero]
                refine wpAnyH_take (i := 1) (v := .slice (some adl) l.length cl) rfl (by kernel_rfl) (by kernel_rfl) (by kernel_rfl) (fun _ _ _ h => h) (.inl ⟨rfl, fun w_ hS_ => ?_⟩) rfl ?_
                · subst hS_
                  unfold execOp
                  go_simp
                  (try first | rfl | (simp only [*]; done))
                simp only [List.getElem_toArray, List.getElem_cons_succ, List.getElem_cons_zero, Act.put, List.setIfInBounds_toArray, List.set_cons_succ, List.set_cons_zero]
                refine wpAnyH_take (i := 2) (v := .int .i64 (l.length : Int)) rfl (by kernel_rfl) (by kernel_rfl) (by kernel_rfl) (fun _ _ _ h => h) (.inl ⟨rfl, fun w_ hS_ => ?_⟩) rfl ?_
                · subst hS_
                  unfold execOp
                  go_simp
                  (try first | rfl | (simp only [*]; done))
                simp only [List.getElem_toArray, List.getElem_cons_succ, List.getElem_cons_zero, Act.put, List.setIfInBounds_toArray, List.set_cons_succ, List.set_cons_zero]
                refine wpAnyH_take (i := 3) (v := .bool true) rfl (by kernel_rfl) (by kernel_rfl) (by kernel_rfl) (fun _ _ _ h => h) (.inl ⟨rfl, fun w_ hS_ => ?_⟩) rfl ?_
                · subst hS_
                  unfold execOp
                  go_simp
                  (try first | rfl | (simp only [*]; done))
                simp only [List.getElem_toArray, List.getElem_cons_succ, List.getElem_cons_zero, Act.put, List.setIfInBounds_toArray, List.set_cons_succ, List.set_cons_zero]
                refine wpAnyH_take (i := 4) (v := .bool true) rfl (by kernel_rfl) (by kernel_rfl) (by kernel_rfl) (fun _ _ _ h => h) (.inl ⟨rfl, fun w_ hS_ => ?_⟩) rfl ?_
                · subst hS_
                  unfold execOp
                  go_simp
                  (try first | rfl | (simp only [*]; done))
                simp only [List.getElem_toArray, List.getElem_cons_succ, List.getElem_cons_zero, Act.put, List.setIfInBounds_toArray, List.set_cons_succ, List.set_cons_zero]
                refine wpAnyH_take (i := 5) (v := .slice (some adl) l.length cl) rfl (by kernel_rfl) (by kernel_rfl) (by kernel_rfl) (fun _ _ _ h => h) (.inl ⟨rfl, fun w_ hS_ => ?_⟩) rfl ?_
                · subst hS_
                  unfold execOp
                  go_simp
                  (try first | rfl | (simp only [*]; done))
                simp only [List.getElem_toArray, List.getElem_cons_succ, List.getElem_cons_zero, Act.put, List.setIfInBounds_toArray, List.set_cons_succ, List.set_cons_zero]
                refine wpAnyH_take (i := 6) (v := .int .i64 (i : Int)) rfl (by kernel_rfl) (by kernel_rfl) (by kernel_rfl) (fun _ _ _ h => h) (.inl ⟨rfl, fun w_ hS_ => ?_⟩) rfl ?_
                · subst hS_
                  unfold execOp
                  go_simp
                  (try first | rfl | (simp only [*]; done))
                simp only [List.getElem_toArray, List.getElem_cons_succ, List.getElem_cons_zero, Act.put, List.setIfInBounds_toArray, List.set_cons_succ, List.set_cons_zero]
                refine wpAnyH_take (i := 7) (v := .pointer (some (adl.add (i * 24)))) rfl (by kernel_rfl) (by kernel_rfl) (by kernel_rfl) (fun _ _ _ h => h) (.inl ⟨rfl, fun w_ hS_ => ?_⟩) rfl ?_
                · subst hS_
                  unfold execOp
                  go_simp
                  (try first | rfl | (simp only [*]; done))
                simp only [List.getElem_toArray, List.getElem_cons_succ, List.getElem_cons_zero, Act.put, List.setIfInBounds_toArray, List.set_cons_succ, List.set_cons_zero]
                refine wpAnyH_take (i := 8) (v := .agg (nums .i64 x).toArray) rfl (by kernel_rfl) (by kernel_rfl) (by kernel_rfl) (fun _ _ _ h => h) (.inl ⟨rfl, fun w_ hS_ => ?_⟩) rfl ?_
                · subst hS_
                  exact ch_lda (adl.add (i * 24)) x 24 rfl rfl Try.underlying42 rfl (by kernel_rfl) NX.out (fun j hj => by rw [Addr.add_add]; exact HCL.out j hj)
                simp only [List.getElem_toArray, List.getElem_cons_succ, List.getElem_cons_zero, Act.put, List.setIfInBounds_toArray, List.set_cons_succ, List.set_cons_zero]
                refine wpAnyH_take (i := 9) (v := .agg (nums .i64 x).toArray) rfl (by kernel_rfl) (by kernel_rfl) (by kernel_rfl) (fun _ _ _ h => h) (.inl ⟨rfl, fun w_ hS_ => ?_⟩) rfl ?_
                · subst hS_
                  exact ch_lda ⟨s1, 0, none⟩ x 24 rfl rfl Try.underlying42 rfl (by kernel_rfl) NX.out (fun j hj => HGX.out j hj)
                simp only [List.getElem_toArray, List.getElem_cons_succ, List.getElem_cons_zero, Act.put, List.setIfInBounds_toArray, List.set_cons_succ, List.set_cons_zero]
                refine wpAnyH_take (i := 10) (v := .bool false) rfl (by kernel_rfl) (by kernel_rfl) (by kernel_rfl) (fun _ _ _ h => h) (.inl ⟨rfl, fun w_ hS_ => ?_⟩) rfl ?_
                · subst hS_
                  exact ch_neq (.tmp 128) (.tmp 129) _ rfl eqw42 (by decide) (by kernel_rfl) x x rfl rfl NX.out NX.out rfl
                simp only [List.getElem_toArray, List.getElem_cons_succ, List.getElem_cons_zero, Act.put, List.setIfInBounds_toArray, List.set_cons_succ, List.set_cons_zero]
                refine wpAnyH_take (i := 11) (v := .bool false) rfl (by kernel_rfl) (by kernel_rfl) (by kernel_rfl) (fun _ _ _ h => h) (.inl ⟨rfl, fun w_ hS_ => ?_⟩) rfl ?_
                · subst hS_
                  unfold execOp
                  go_simp
                  (try first | rfl | (simp only [*]; done))
                simp only [List.getElem_toArray, List.getElem_cons_succ, List.getElem_cons_zero, Act.put, List.setIfInBounds_toArray, List.set_cons_succ, List.set_cons_zero]
                refine wpAnyH_take (i := 12) (v := .bool false) rfl (by kernel_rfl) (by kernel_rfl) (by kernel_rfl) (fun _ _ _ h => h) (.inl ⟨rfl, fun w_ hS_ => ?_⟩) rfl ?_
                · subst hS_
                  unfold execOp
                  go_simp
                  (try first | rfl | (simp only [*]; done))
                simp only [List.getElem_toArray, List.getElem_cons_succ, List.getElem_cons_zero, Act.put, List.setIfInBounds_toArray, List.set_cons_succ, List.set_cons_zero]
                refine wpAnyH_take (i := 13) (v := .int .i64 (i : Int)) rfl (by kernel_rfl) (by kernel_rfl) (by kernel_rfl) (fun _ _ _ h => h) (.inl ⟨rfl, fun w_ hS_ => ?_⟩) rfl ?_
                · subst hS_
                  unfold execOp
                  go_simp
                  (try first | rfl | (simp only [*]; done))
                simp only [List.getElem_toArray, List.getElem_cons_succ, List.getElem_cons_zero, Act.put, List.setIfInBounds_toArray, List.set_cons_succ, List.set_cons_zero]
                refine wpAnyH_take (i := 14) (v := .slice (some adl) l.length cl) rfl (by kernel_rfl) (by kernel_rfl) (by kernel_rfl) (fun _ _ _ h => h) (.inl ⟨rfl, fun w_ hS_ => ?_⟩) rfl ?_
                · subst hS_
                  unfold execOp
                  go_simp
                  (try first | rfl | (simp only [*]; done))
                simp only [List.getElem_toArray, List.getElem_cons_succ, List.getElem_cons_zero, Act.put, List.setIfInBounds_toArray, List.set_cons_succ, List.set_cons_zero]
                refine wpAnyH_take (i := 15) (v := .int .i64 (l.length : Int)) rfl (by kernel_rfl) (by kernel_rfl) (by kernel_rfl) (fun _ _ _ h => h) (.inl ⟨rfl, fun w_ hS_ => ?_⟩) rfl ?_
                · subst hS_
                  unfold execOp
                  go_simp
                  (try first | rfl | (simp only [*]; done))
                simp only [List.getElem_toArray, List.getElem_cons_succ, List.getElem_cons_zero, Act.put, List.setIfInBounds_toArray, List.set_cons_succ, List.set_cons_zero]
                refine wpAnyH_take (i := 16) (v := .bool false) rfl (by kernel_rfl) (by kernel_rfl) (by kernel_rfl) (fun _ _ _ h => h) (.inl ⟨rfl, fun w_ hS_ => ?_⟩) rfl ?_
                · subst hS_
                  unfold execOp
                  go_simp
                  (try first | rfl | (simp only [*]; done))
                simp only [List.getElem_toArray, List.getElem_cons_succ, List.getElem_cons_zero, Act.put, List.setIfInBounds_toArray, List.set_cons_succ, List.set_cons_zero]
                refine wpAnyH_take (i := 17) (v := .bool false) rfl (by kernel_rfl) (by kernel_rfl) (by kernel_rfl) (fun _ _ _ h => h) (.inl ⟨rfl, fun w_ hS_ => ?_⟩) rfl ?_
                · subst hS_
                  unfold execOp
                  go_simp
                  (try first | rfl | (simp only [*]; done))
                simp only [List.getElem_toArray, List.getElem_cons_succ, List.getElem_cons_zero, Act.put, List.setIfInBounds_toArray, List.set_cons_succ, List.set_cons_zero]
                refine wpAnyH_take (i := 18) (v := undef) rfl (by kernel_rfl) (by kernel_rfl) (by kernel_rfl) (fun _ _ _ h => h) (.inr ⟨rfl, rfl⟩) rfl ?_
                simp only [List.getElem_toArray, List.getElem_cons_succ, List.getElem_cons_zero, Act.put, List.setIfInBounds_toArray, List.set_cons_succ, List.set_cons_zero]
                refine wpAnyH_take (i := 19) (v := undef) rfl (by kernel_rfl) (by kernel_rfl) (by kernel_rfl) (fun _ _ _ h => h) (.inr ⟨rfl, rfl⟩) rfl ?_
                simp only [List.getElem_toArray, List.getElem_cons_succ, List.getElem_cons_zero, Act.put, List.setIfInBounds_toArray, List.set_cons_succ, List.set_cons_zero]
                refine wpAnyH_take (i := 20) (v := undef) rfl (by kernel_rfl) (by kernel_rfl) (by kernel_rfl) (fun _ _ _ h => h) (.inr ⟨rfl, rfl⟩) rfl ?_
                simp only [List.getElem_toArray, List.getElem_cons_succ, List.getElem_cons_zero, Act.put, List.setIfInBounds_toArray, List.set_cons_succ, List.set_cons_zero]
                refine wpAnyH_take (i := 21) (v := .bool false) rfl (by kernel_rfl) (by kernel_rfl) (by kernel_rfl) (fun _ _ _ h => h) (.inl ⟨rfl, fun w_ hS_ => ?_⟩) rfl ?_
                · subst hS_
                  unfold execOp
                  go_simp
                  (try first | rfl | (simp only [*]; done))
                simp only [List.getElem_toArray, List.getElem_cons_succ, List.getElem_cons_zero, Act.put, List.setIfInBounds_toArray, List.set_cons_succ, List.set_cons_zero]
                refine wpAnyH_take (i := 22) (v := .bool false) rfl (by kernel_rfl) (by kernel_rfl) (by kernel_rfl) (fun _ _ _ h => h) (.inl ⟨rfl, fun w_ hS_ => ?_⟩) rfl ?_
                · subst hS_
                  unfold execOp
                  go_simp
                  (try first | rfl | (simp only [*]; done))
                simp only [List.getElem_toArray, List.getElem_cons_succ, List.getElem_cons_zero, Act.put, List.setIfInBounds_toArray, List.set_cons_succ, List.set_cons_zero]
                refine wpAnyH_done (by kernel_rfl) ?_ _
                go_wp2
                cases gk with
                | zero => exact absurd CI.out (by have := hki.out; omega)
                | succ gk =>
                  go_roundg gk
                  case measure => omega
                  case rel => exact ⟨i + 1, by rw [hw_], ⟨by have := hki.out; omega⟩, ⟨below_then hbw.out hbw.out.size (below_drew BT.out)⟩⟩
              case neg =>
                have d0 : decide ((i : Int) < (l.length : Int)) = false := decide_eq_false (by omega)
                have d1 : decide (i < l.length) = false := decide_eq_false cl_
                have d2 : decide ((l.length : Int) ≤ (i : Int)) = true := decide_eq_true (by omega)
                have d3 : decide (l.length ≤ i) = true := decide_eq_true (by omega)
                have HZX : Aside0 (x = zInode) := ⟨by rw [HX.out]; exact (G7.out i CI.out).2 (by omega)⟩
                clear cl_
                refine wp_region_held (S := fun w_ => w_ = wt.drew) (by kernel_rfl) ?_
                refine wpAnyH_take (i := 0) (v := .int .i64 (i : Int)) rfl (by kernel_rfl) (by kernel_rfl) (by kernel_rfl) (fun _ _ _ h => h) (.inl ⟨rfl, fun w_ hS_ => ?_⟩) rfl ?_
                · subst hS_
                  unfold execOp
                  go_simp
                  (try first | rfl | (simp only [*]; done))
                simp only [List.getElem_toArray, List.getElem_cons_succ, List.getElem_cons_zero, Act.put, List.setIfInBounds_toArray, List.set_cons_succ, List.set_cons_zero]
                refine wpAnyH_take (i := 1) (v := .slice Al l.length cl) rfl (by kernel_rfl) (by kernel_rfl) (by kernel_rfl) (fun _ _ _ h => h) (.inl ⟨rfl, fun w_ hS_ => ?_⟩) rfl ?_
                · subst hS_
                  unfold execOp
                  go_simp
                  (try first | rfl | (simp only [*]; done))
                simp only [List.getElem_toArray, List.getElem_cons_succ, List.getElem_cons_zero, Act.put, List.setIfInBounds_toArray, List.set_cons_succ, List.set_cons_zero]
                refine wpAnyH_take (i := 2) (v := .int .i64 (l.length : Int)) rfl (by kernel_rfl) (by kernel_rfl) (by kernel_rfl) (fun _ _ _ h => h) (.inl ⟨rfl, fun w_ hS_ => ?_⟩) rfl ?_
                · subst hS_
                  unfold execOp
                  go_simp
                  (try first | rfl | (simp only [*]; done))
                simp only [List.getElem_toArray, List.getElem_cons_succ, List.getElem_cons_zero, Act.put, List.setIfInBounds_toArray, List.set_cons_succ, List.set_cons_zero]
                refine wpAnyH_take (i := 3) (v := .bool false) rfl (by kernel_rfl) (by kernel_rfl) (by kernel_rfl) (fun _ _ _ h => h) (.inl ⟨rfl, fun w_ hS_ => ?_⟩) rfl ?_
                · subst hS_
                  unfold execOp
                  go_simp
                  (try first | rfl | (simp only [*]; done))
                simp only [List.getElem_toArray, List.getElem_cons_succ, List.getElem_cons_zero, Act.put, List.setIfInBounds_toArray, List.set_cons_succ, List.set_cons_zero]
                refine wpAnyH_take (i := 4) (v := .bool false) rfl (by kernel_rfl) (by kernel_rfl) (by kernel_rfl) (fun _ _ _ h => h) (.inl ⟨rfl, fun w_ hS_ => ?_⟩) rfl ?_
                · subst hS_
                  unfold execOp
                  go_simp
                  (try first | rfl | (simp only [*]; done))
                simp only [List.getElem_toArray, List.getElem_cons_succ, List.getElem_cons_zero, Act.put, List.setIfInBounds_toArray, List.set_cons_succ, List.set_cons_zero]
                refine wpAnyH_take (i := 5) (v := undef) rfl (by kernel_rfl) (by kernel_rfl) (by kernel_rfl) (fun _ _ _ h => h) (.inr ⟨rfl, rfl⟩) rfl ?_
                simp only [List.getElem_toArray, List.getElem_cons_succ, List.getElem_cons_zero, Act.put, List.setIfInBounds_toArray, List.set_cons_succ, List.set_cons_zero]
                refine wpAnyH_take (i := 6) (v := undef) rfl (by kernel_rfl) (by kernel_rfl) (by kernel_rfl) (fun _ _ _ h => h) (.inr ⟨rfl, rfl⟩) rfl ?_
                simp only [List.getElem_toArray, List.getElem_cons_succ, List.getElem_cons_zero, Act.put, List.setIfInBounds_toArray, List.set_cons_succ, List.set_cons_zero]
                refine wpAnyH_take (i := 7) (v := undef) rfl (by kernel_rfl) (by kernel_rfl) (by kernel_rfl) (fun _ _ _ h => h) (.inr ⟨rfl, rfl⟩) rfl ?_
                simp only [List.getElem_toArray, List.getElem_cons_succ, List.getElem_cons_zero, Act.put, List.setIfInBounds_toArray, List.set_cons_succ, List.set_cons_zero]
                refine wpAnyH_take (i := 8) (v := undef) rfl (by kernel_rfl) (by kernel_rfl) (by kernel_rfl) (fun _ _ _ h => h) (.inr ⟨rfl, rfl⟩) rfl ?_
                simp only [List.getElem_toArray, List.getElem_cons_succ, List.getElem_cons_zero, Act.put, List.setIfInBounds_toArray, List.set_cons_succ, List.set_cons_zero]
                refine wpAnyH_take (i := 9) (v := undef) rfl (by kernel_rfl) (by kernel_rfl) (by kernel_rfl) (fun _ _ _ h => h) (.inr ⟨rfl, rfl⟩) rfl ?_
                simp only [List.getElem_toArray, List.getElem_cons_succ, List.getElem_cons_zero, Act.put, List.setIfInBounds_toArray, List.set_cons_succ, List.set_cons_zero]
                refine wpAnyH_take (i := 10) (v := undef) rfl (by kernel_rfl) (by kernel_rfl) (by kernel_rfl) (fun _ _ _ h => h) (.inr ⟨rfl, rfl⟩) rfl ?_
                simp only [List.getElem_toArray, List.getElem_cons_succ, List.getElem_cons_zero, Act.put, List.setIfInBounds_toArray, List.set_cons_succ, List.set_cons_zero]
                refine wpAnyH_take (i := 11) (v := .bool false) rfl (by kernel_rfl) (by kernel_rfl) (by kernel_rfl) (fun _ _ _ h => h) (.inl ⟨rfl, fun w_ hS_ => ?_⟩) rfl ?_
                · subst hS_
                  unfold execOp
                  go_simp
                  (try first | rfl | (simp only [*]; done))
                simp only [List.getElem_toArray, List.getElem_cons_succ, List.getElem_cons_zero, Act.put, List.setIfInBounds_toArray, List.set_cons_succ, List.set_cons_zero]
                refine wpAnyH_take (i := 12) (v := .bool false) rfl (by kernel_rfl) (by kernel_rfl) (by kernel_rfl) (fun _ _ _ h => h) (.inl ⟨rfl, fun w_ hS_ => ?_⟩) rfl ?_
                · subst hS_
                  unfold execOp
                  go_simp
                  (try first | rfl | (simp only [*]; done))
                simp only [List.getElem_toArray, List.getElem_cons_succ, List.getElem_cons_zero, Act.put, List.setIfInBounds_toArray, List.set_cons_succ, List.set_cons_zero]
                refine wpAnyH_take (i := 13) (v := .int .i64 (i : Int)) rfl (by kernel_rfl) (by kernel_rfl) (by kernel_rfl) (fun _ _ _ h => h) (.inl ⟨rfl, fun w_ hS_ => ?_⟩) rfl ?_
                · subst hS_
                  unfold execOp
                  go_simp
                  (try first | rfl | (simp only [*]; done))
                simp only [List.getElem_toArray, List.getElem_cons_succ, List.getElem_cons_zero, Act.put, List.setIfInBounds_toArray, List.set_cons_succ, List.set_cons_zero]
                refine wpAnyH_take (i := 14) (v := .slice Al l.length cl) rfl (by kernel_rfl) (by kernel_rfl) (by kernel_rfl) (fun _ _ _ h => h) (.inl ⟨rfl, fun w_ hS_ => ?_⟩) rfl ?_
                · subst hS_
                  unfold execOp
                  go_simp
                  (try first | rfl | (simp only [*]; done))
                simp only [List.getElem_toArray, List.getElem_cons_succ, List.getElem_cons_zero, Act.put, List.setIfInBounds_toArray, List.set_cons_succ, List.set_cons_zero]
                refine wpAnyH_take (i := 15) (v := .int .i64 (l.length : Int)) rfl (by kernel_rfl) (by kernel_rfl) (by kernel_rfl) (fun _ _ _ h => h) (.inl ⟨rfl, fun w_ hS_ => ?_⟩) rfl ?_
                · subst hS_
                  unfold execOp
                  go_simp
                  (try first | rfl | (simp only [*]; done))
                simp only [List.getElem_toArray, List.getElem_cons_succ, List.getElem_cons_zero, Act.put, List.setIfInBounds_toArray, List.set_cons_succ, List.set_cons_zero]
                refine wpAnyH_take (i := 16) (v := .bool true) rfl (by kernel_rfl) (by kernel_rfl) (by kernel_rfl) (fun _ _ _ h => h) (.inl ⟨rfl, fun w_ hS_ => ?_⟩) rfl ?_
                · subst hS_
                  unfold execOp
                  go_simp
                  (try first | rfl | (simp only [*]; done))
                simp only [List.getElem_toArray, List.getElem_cons_succ, List.getElem_cons_zero, Act.put, List.setIfInBounds_toArray, List.set_cons_succ, List.set_cons_zero]
                refine wpAnyH_take (i := 17) (v := .bool true) rfl (by kernel_rfl) (by kernel_rfl) (by kernel_rfl) (fun _ _ _ h => h) (.inl ⟨rfl, fun w_ hS_ => ?_⟩) rfl ?_
                · subst hS_
                  unfold execOp
                  go_simp
                  (try first | rfl | (simp only [*]; done))
                simp only [List.getElem_toArray, List.getElem_cons_succ, List.getElem_cons_zero, Act.put, List.setIfInBounds_toArray, List.set_cons_succ, List.set_cons_zero]
                refine wpAnyH_take (i := 18) (v := .agg (nums .i64 x).toArray) rfl (by kernel_rfl) (by kernel_rfl) (by kernel_rfl) (fun _ _ _ h => h) (.inl ⟨rfl, fun w_ hS_ => ?_⟩) rfl ?_
                · subst hS_
                  exact ch_lda ⟨s1, 0, none⟩ x 24 rfl rfl Try.underlying42 rfl (by kernel_rfl) NX.out (fun j hj => HGX.out j hj)
                simp only [List.getElem_toArray, List.getElem_cons_succ, List.getElem_cons_zero, Act.put, List.setIfInBounds_toArray, List.set_cons_succ, List.set_cons_zero]
                refine wpAnyH_take (i := 19) (v := .agg (nums .i64 zInode).toArray) rfl (by kernel_rfl) (by kernel_rfl) (by kernel_rfl) (fun _ _ _ h => h) (.inl ⟨rfl, fun w_ hS_ => ?_⟩) rfl ?_
                · subst hS_
                  exact ch_build #[] rfl #[] (by simp only [List.map_toArray, List.map_cons, List.map_nil]) _ BZ
                simp only [List.getElem_toArray, List.getElem_cons_succ, List.getElem_cons_zero, Act.put, List.setIfInBounds_toArray, List.set_cons_succ, List.set_cons_zero]
                refine wpAnyH_take (i := 20) (v := .bool false) rfl (by kernel_rfl) (by kernel_rfl) (by kernel_rfl) (fun _ _ _ h => h) (.inl ⟨rfl, fun w_ hS_ => ?_⟩) rfl ?_
                · subst hS_
                  exact ch_neq (.tmp 138) (.tmp 139) _ rfl eqw42 (by decide) (by kernel_rfl) x zInode rfl rfl NX.out rfl HZX.out
                simp only [List.getElem_toArray, List.getElem_cons_succ, List.getElem_cons_zero, Act.put, List.setIfInBounds_toArray, List.set_cons_succ, List.set_cons_zero]
                refine wpAnyH_take (i := 21) (v := .bool false) rfl (by kernel_rfl) (by kernel_rfl) (by kernel_rfl) (fun _ _ _ h => h) (.inl ⟨rfl, fun w_ hS_ => ?_⟩) rfl ?_
                · subst hS_
                  unfold execOp
                  go_simp
                  (try first | rfl | (simp only [*]; done))
                simp only [List.getElem_toArray, List.getElem_cons_succ, List.getElem_cons_zero, Act.put, List.setIfInBounds_toArray, List.set_cons_succ, List.set_cons_zero]
                refine wpAnyH_take (i := 22) (v := .bool false) rfl (by kernel_rfl) (by kernel_rfl) (by kernel_rfl) (fun _ _ _ h => h) (.inl ⟨rfl, fun w_ hS_ => ?_⟩) rfl ?_
                · subst hS_
                  unfold execOp
                  go_simp
                  (try first | rfl | (simp only [*]; done))
                simp only [List.getElem_toArray, List.getElem_cons_succ, List.getElem_cons_zero, Act.put, List.setIfInBounds_toArray, List.set_cons_succ, List.set_cons_zero]
                refine wpAnyH_done (by kernel_rfl) ?_ _
                go_wp2
                cases gk with
                | zero => exact absurd CI.out (by have := hki.out; omega)
                | succ gk =>
                  go_roundg gk
                  case measure => omega
                  case rel => exact ⟨i + 1, by rw [hw_], ⟨by have := hki.out; omega⟩, ⟨below_then hbw.out hbw.out.size (below_drew BT.out)⟩⟩
            case neg =>
              have ci0 : decide ((i : Int) < (R.length : Int)) = false := decide_eq_false (by omega)
              have ci1 : decide (i < R.length) = false := decide_eq_false ci
              have cb0 : decide (256 ≤ (B.length : Int)) = true := decide_eq_true (by have := G6.out; omega)
              have cb1 : decide (256 ≤ B.length) = true := decide_eq_true G6.out
              clear ci
              go_wp2
              go_ret
              exact ⟨rfl, below_then HB.out HB.out.size hbw.out⟩)
end Go.Proofs.Ytkghgjehjchajaa.PFnTable
