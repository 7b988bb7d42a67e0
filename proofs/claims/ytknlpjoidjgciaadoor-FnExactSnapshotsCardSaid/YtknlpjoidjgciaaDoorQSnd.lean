/- Snapshots: spec.Snapshots. -/
import Derived.Test.YtknlpjoidjgciaaDoorQSnc
import Derived.Test.YtknlpjoidjgciaaDoorQPFnExactSnapshotsx7
import Derived.Test.YtknlpjoidjgciaaDoorQPFnExactSnapshotsx9
import Derived.Test.YtknlpjoidjgciaaDoorQPFnExactSnapshotsx1
import Derived.Test.YtknlpjoidjgciaaDoorQW2
namespace Go.Proofs.YtknlpjoidjgciaaDoor.PFnExactSnapshots
open Go Go.RowKit Go.Proofs.YtknlpjoidjgciaaDoorW.PrintWords Go.Proofs.YtknlpjoidjgciaaDoorW.PrintLast Go.Proofs.YtknlpjoidjgciaaDoorW.PrintMore Go.Proofs.YtknlpjoidjgciaaDoorW.PrintHand Go.Proofs.YtknlpjoidjgciaaDoorW.PrintHx Go.Proofs.YtknlpjoidjgciaaDoorW.PrintLe Go.Proofs.YtknlpjoidjgciaaDoorW.PrintIno Go.Proofs.YtknlpjoidjgciaaDoorW.PrintDec Go.Proofs.YtknlpjoidjgciaaDoorW.PrintFsi Go.Proofs.YtknlpjoidjgciaaDoorW.PrintFsb Go.Proofs.YtknlpjoidjgciaaDoorW.PrintFsd Go.Proofs.YtknlpjoidjgciaaDoorW.PrintCrc Go.Proofs.YtknlpjoidjgciaaDoorW.PrintGrow Go.Proofs.YtknlpjoidjgciaaDoorW.PrintSnp Go.Proofs.YtknlpjoidjgciaaDoorW.PrintSnd Go.Proofs.YtknlpjoidjgciaaDoorW.PrintRws Go.Proofs.YtknlpjoidjgciaaDoorW
open Go.Proofs.YtknlpjoidjgciaaDoorW.PrintChs Go.Proofs.YtknlpjoidjgciaaDoorW.PrintTab2
attribute [local go_sem] max2_int min2_int max_two min_two max_three min_three max_four min_four
set_option linter.unusedVariables false
set_option linter.unusedSimpArgs false
set_option maxHeartbeats 8000000 in
set_option maxRecDepth 100000 in
theorem specSnaps_told (A0 : Option Addr) (c0 : Nat) (l0 : List Int) (w : World) (hr0 : Kd.C (Kd.int .u8) w A0 l0.length l0) (hc0 : l0.length ≤ c0) (hl : l0.length ≤ 1048576) (hby : Byt l0) :
    Calls Tryd.prog 37 #[.slice A0 l0.length c0] w fun e w' => ∃ v : Value, e = .returned (.tuple #[v, .int .i64 (snapsF l0).2]) ∧ Kd.R (cellsK 19) 131 w' w.heap.size (fun _ => True) v ((snapsF l0).1.map Sn.c) ∧ Below w.heap.size w w' := by
  obtain ⟨L, at_, c, hch⟩ : ∃ L a c, chooseF (decA l0) l0 = (L, a, c) := ⟨_, _, _, rfl⟩
  have NL := Aside0.mk (choose_len hch)
  have HCH := Aside0.mk hch
  have HR0 := Aside0.mk hr0
  have HC0 := Aside0.mk hc0
  have HLM := Aside0.mk hl
  have HBY := Aside0.mk hby
  have HSC : Aside0 (spec_ChooseFsinfo.f l0 = some (L, at_, c)) := ⟨by unfold spec_ChooseFsinfo.f; rw [if_pos ⟨hl, hby⟩, hch]⟩
  obtain ⟨F, hF⟩ : ∃ F, F = snapsF l0 := ⟨_, rfl⟩
  rw [← hF]
  have HF := Aside0.mk hF
  have HB := Aside0.mk (Below.refl w.heap.size w)
  obtain ⟨zz, hzz⟩ : ∃ z, z = List.replicate 68 (0 : Int) := ⟨_, rfl⟩
  have NZ := Aside0.mk (show zz.length = 68 by rw [hzz]; simp)
  have Z127 : ∀ w, (zeroValue 127).run Tryd.prog w = .ok (.agg (nums .i64 zz).toArray) w := fun _ => by rw [hzz]; kernel_rfl
  obtain ⟨z1, hz1⟩ : ∃ z, z = (snapC 0 ByteArray.empty 0 0 (List.replicate 15 0)).toArray := ⟨_, rfl⟩
  have Z131 : ∀ w, (zeroValue 131).run Tryd.prog w = .ok (.agg z1) w := fun _ => by rw [hz1]; kernel_rfl
  have NZ1 := Aside0.mk (show z1.size = 19 by rw [hz1]; exact snapZ_size)
  have hi_ : (Tryd.prog.info? 131).map (fun i => (i.zero, i.size, i.bytes)) = some (some (.agg z1), 19, 160) := by rw [hz1]; kernel_rfl
  have HI := Aside0.mk hi_
  obtain ⟨PP, hPP⟩ : ∃ P, P = fsS L := ⟨_, rfl⟩
  have NP := Aside0.mk (show PP.length = 31 by rw [hPP, fsS]; exact seg_le _ _ (by rw [NL.out]; decide))
  have HPP := Aside0.mk hPP
  clear hch hr0 hc0 hl hby hF hzz hz1 hi_ hPP
  go_enter Tryd.func37, Tryd.ntmps37
  go_upto_if 21 with (first | ((with_reducible refine gate_dst (N := 16) rfl ?_); refine goesL_ (some 16) rfl rfl Tryd.func78 (by kernel_rfl) rfl #[.slice A0 l0.length c0] rfl (by (try simp only [List.map_toArray, List.map_cons, List.map_nil]); first | done | rfl) ?_; refine (spec_ChooseFsinfo.calls A0 c0 l0 L at_ c _ (Kd.C_below HR0.out HB.out) HC0.out HSC.out).mono ?_; rintro e_ wq ⟨rfl, b_⟩; refine ⟨_, rfl, ?_⟩; have HBn := Aside0.mk (below_then HB.out HB.out.size b_); clear b_; clear HB; have HB := HBn; clear HBn; obtain ⟨wm, rfl⟩ : ∃ x, x = wq := ⟨_, rfl⟩) | ((with_reducible refine gate_dst (N := 4) rfl ?_); refine ex_alloc rfl 4 rfl 127 rfl (.agg (nums .i64 zz).toArray) (nums .i64 zz).toArray Z127 (by first | rfl | simp [Value.cells]) ?_; intro s4 wq Ss4 Ss4' b_ g_; have H4 := Aside0.mk g_; have Bs4 : Aside0 (w.heap.size ≤ s4) := ⟨by rw [← Ss4.out]; exact HB.out.size⟩; clear g_ Ss4 Ss4'; have HBn := Aside0.mk (below_then HB.out HB.out.size b_); clear b_; clear HB; have HB := HBn; clear HBn; obtain ⟨wm, rfl⟩ : ∃ x, x = wq := ⟨_, rfl⟩) | ((with_reducible refine gate_store (t := 127) (p := 4) (v := .tmp 17) rfl ?_); refine hx_store rfl rfl 127 (.tmp 4) (.tmp 17) rfl s4 68 rfl (nums .i64 L).toArray rfl (by kernel_rfl) (nums_size _ _ _ NL.out) (nums_one _ _) H4.out (nums_size _ _ _ NZ.out) ?_; intro wq t_ g_; have H4n := Aside0.mk g_; have HBn := Aside0.mk (t_.below HB.out Bs4.out); clear t_ g_; clear H4 HB; have H4 := H4n; have HB := HBn; clear H4n HBn; obtain ⟨wm, rfl⟩ : ∃ x, x = wq := ⟨_, rfl⟩))
  by_cases hc : c = 0
  case neg =>
    have cz : (c != 0) = true := bne_iff_ne.2 hc
    have e_ : F = ([], c) := by rw [HF.out]; exact snapsF_bad HCH.out hc
    subst e_
    clear hc
    (try rw [cz])
    go_wp2
    go_ret2
    exact ⟨_, rfl, Kd.R_nil _ _ _ _ _, HB.out⟩
  subst hc
  have cz : ((0 : Int) != 0) = false := rfl
  go_wp2_with (first | ((with_reducible refine gate_dst (N := 23) rfl ?_); refine Kd.R_lit (cellsK 19) (w0 := w) w.heap.size 131 ?hg (N := 23) ?hd (xs := ([] : List (List Value))) (inner := []) (ok := fun _ => True) (okp := fun _ => True) ?hr ?hp (fun _ hk => hk) trivial HB.out HB.out.size (by simp) ?_; (case hd => rfl); (case hg => rfl); (case hr => first | (go_simp; done) | (go_simp; rfl)); (case hp => exact (Reps.none _ _)); intro v7 wq o_ b_ hg_ hnew_; obtain ⟨A7, c7, rfl⟩ := Kd.R_slice o_; have OO := Aside0.mk o_; have H4n := Aside0.mk ((hg_.block s4 (blk_lt H4.out) (by simp)).trans H4.out); have HBn := Aside0.mk b_; clear o_ b_ hg_ hnew_; clear H4 HB; have H4 := H4n; have HB := HBn; clear H4n HBn; obtain ⟨wm, rfl⟩ : ∃ x, x = wq := ⟨_, rfl⟩) | ((with_reducible refine gate_dst (N := 25) rfl ?_); refine wpList_ld rfl 125 (.tmp 24) rfl s4 37 31 rfl (nums .i64 PP).toArray Tryd.underlying125 rfl (by kernel_rfl) H4.out (by rw [nums_size _ _ _ NL.out]; decide) (by rw [HPP.out]; exact take_nums _ _ _ _) ?_))
  (try simp only [Act.put, List.setIfInBounds_toArray, List.set_cons_succ, List.set_cons_zero])
  clear H4
  go_loopw [7, 26] (fun v7 v26 wr => ∃ (i : Nat) (O : List Sn) (A7 : Option Addr) (c7 : Nat), v26 = .int .i64 (i : Int) ∧ v7 = .slice A7 O.length c7 ∧ Aside0 (i ≤ 31) ∧ Aside0 (snN l0 PP i = some O) ∧ Aside0 (Kd.R (cellsK 19) 131 wr w.heap.size (fun _ => True) (.slice A7 O.length c7) (O.map Sn.c)) ∧ Aside0 (Below w.heap.size w wr)) (fun _ v26 _ => 31 - (intOf v26).toNat)
  case atStart => exact ⟨0, [], A7, c7, rfl, rfl, ⟨by omega⟩, ⟨rfl⟩, OO, HB⟩
  case round =>
    clear OO HB
    obtain ⟨i, O, A7, c7, rfl, rfl, hi, HN, OO, HB⟩ := hrel
    obtain ⟨wm, rfl⟩ : ∃ x, x = wr := ⟨_, rfl⟩
    by_cases ci : i < 31
    case neg =>
      have e31 : i = 31 := by have := hi.out; omega
      have ci0 : decide ((i : Int) < 31) = false := decide_eq_false (by omega)
      have ci1 : decide (i < 31) = false := decide_eq_false ci
      have e_ : F = (O, 0) := by rw [HF.out, snapsF_good HCH.out, ← HPP.out]; exact snF_all e31 HN.out
      clear ci e31
      subst e_
      go_wp2
      go_ret2
      exact ⟨_, rfl, OO.out, HB.out⟩
    have ci0 : decide ((i : Int) < 31) = true := decide_eq_true (by omega)
    have ci1 : decide (i < 31) = true := decide_eq_true ci
    obtain ⟨b, hb, hb1, hb2, hb3⟩ := snap_place HCH.out NL.out i ci
    rw [← HPP.out] at hb
    have PB := Aside0.mk hb
    have PB1 := Aside0.mk hb1
    have CI := Aside0.mk ci
    have hw_ : wrap64 ((i : Int) + 1) = ((i + 1 : Nat) : Int) := by (have := CI.out; unfold wrap64; omega)
    clear hb hb1 hb2 hb3 ci
    obtain ⟨q0, Q0⟩ : ∃ q, Aside0 (((b : Int) == 0) = q) := ⟨_, ⟨rfl⟩⟩
    go_upto_if 31 with (first | ((with_reducible refine gate_dst (N := 29) rfl ?_); refine hx_index rfl 125 3 31 (.tmp 25) (.tmp 26) rfl PP i _ rfl rfl Tryd.underlying125 Tryd.underlying3 rfl (by kernel_rfl) NP.out CI.out ?_; rw [PB.out]) | ((with_reducible refine gate_dst (N := 31) rfl ?_); refine hx_eqi rfl 3 3 (.tmp 30) _ rfl Tryd.underlying3 (b : Int) 0 rfl rfl q0 Q0 ?_))
    cases q0
    case true =>
      have hb0 : b = 0 := by have := Q0.out; simpa using this
      go_wp2
      go_roundw
      case rel => exact ⟨i + 1, O, A7, c7, by first | rw [hw_] | rfl, rfl, ⟨by have := CI.out; omega⟩, ⟨snN_step HN.out (snStep_zero (by rw [PB.out, hb0]; rfl))⟩, OO, HB⟩
      case measure =>
        (try rw [hw_])
        simp only [intOf, Int.toNat_natCast]
        have := CI.out
        omega
    case false =>
      have B0 : Aside0 (b ≠ 0) := ⟨fun h_ => by have := Q0.out; rw [h_] at this; simp at this⟩
      obtain ⟨x, s, p, q, r, k, hd⟩ : ∃ x s p q r k, snD l0 b = (x, s, p, q, r, k) := ⟨_, _, _, _, _, _, rfl⟩
      have NR := Aside0.mk (snD_len hd)
      have HSD := Aside0.mk hd
      obtain ⟨ck, hck⟩ : ∃ c, c = ckC (nameS (blk l0 b)) := ⟨_, rfl⟩
      have HCK : Aside0 (spec_CheckName.f 101 (nameS (blk l0 b)) = some ck ∧ (ck = 0 → (nameS (blk l0 b)).size ≤ 26)) := ⟨by rw [hck]; exact ⟨(ckC_f _).1, (ckC_f _).2.2⟩⟩
      have HSA : Aside0 (snapA ck (blk l0 b) = (x, s, p, q, r, k)) := ⟨by rw [hck]; exact hd⟩
      clear hd hck
      have BAD : Aside0 (k ≠ 0 ∨ x ≠ (i : Int) + 1 ∨ memB s (O.map Sn.s) = true → F = ([], 21)) := ⟨fun h_ => by rw [HF.out, snapsF_good HCH.out, ← HPP.out]; exact snF_bad CI.out HN.out (snStep_bad PB.out B0.out HSD.out h_)⟩
      obtain ⟨qk, QK⟩ : ∃ q, Aside0 ((k != 0) = q) := ⟨_, ⟨rfl⟩⟩
      cases qk
      case true =>
        go_wp2_with (first | ((with_reducible refine gate_dst (N := 35) rfl ?_); refine goesL_ (some 35) rfl rfl Tryd.func80 (by kernel_rfl) rfl #[.slice A0 l0.length c0, .int .i64 (b : Int)] rfl (by (try simp only [List.map_toArray, List.map_cons, List.map_nil]); first | done | rfl) ?_; refine (spec_l09At.calls A0 c0 l0 b _ (Kd.C_below HR0.out HB.out) HC0.out PB1.out HLM.out).mono ?_; rintro e_ wq ⟨⟨Ab, cb, rfl, hcb_, hlb_⟩, b_⟩; refine ⟨_, rfl, ?_⟩; have HCB := Aside0.mk hcb_; have HLB := Aside0.mk hlb_; clear hcb_ hlb_; have OOn := Aside0.mk (Kd.R_below OO.out b_); have HBn := Aside0.mk (below_then HB.out HB.out.size b_); clear b_; clear OO HB; have OO := OOn; have HB := HBn; clear OOn HBn; obtain ⟨wm, rfl⟩ : ∃ x, x = wq := ⟨_, rfl⟩) | ((with_reducible refine gate_dst (N := 36) rfl ?_); refine goesL_ (some 36) rfl rfl Tryd.func79 (by kernel_rfl) rfl #[.slice Ab (blk l0 b).length cb] rfl (by (try simp only [List.map_toArray, List.map_cons, List.map_nil]); first | done | rfl) ?_; refine (spec_DecodeSnap.calls Ab cb (blk l0 b) 101 ck HCK.out.1 HCK.out.2 x s p q r _ _ HCB.out HLB.out (blk_byt HBY.out b) HSA.out).mono ?_; rintro e_ wq ⟨rfl, b_⟩; refine ⟨_, rfl, ?_⟩; have OOn := Aside0.mk (Kd.R_below OO.out b_); have HBn := Aside0.mk (below_then HB.out HB.out.size b_); clear HCB HLB; clear b_; clear OO HB; have OO := OOn; have HB := HBn; clear OOn HBn; obtain ⟨wm, rfl⟩ : ∃ x, x = wq := ⟨_, rfl⟩) | ((with_reducible refine gate_dst (N := 10) rfl ?_); refine ex_alloc rfl 10 rfl 131 rfl (.agg z1) z1 Z131 (by first | rfl | simp [Value.cells]) ?_; intro s10 wq Ss10 Ss10' b_ g_; have H10 := Aside0.mk g_; have Bs10 : Aside0 (w.heap.size ≤ s10) := ⟨by rw [← Ss10.out]; exact HB.out.size⟩; have OO' := Aside0.mk (Kd.R_mono (ok' := (fun k_ => k_ < s10)) (Kd.R_bound OO.out) (fun k_ hk_ => by rw [← Ss10.out]; exact hk_.2.2.1)); clear OO; have OO := OO'; clear OO'; clear g_ Ss10 Ss10'; have OOn := Aside0.mk (Kd.R_below OO.out b_); have HBn := Aside0.mk (below_then HB.out HB.out.size b_); clear b_; clear OO HB; have OO := OOn; have HB := HBn; clear OOn HBn; obtain ⟨wm, rfl⟩ : ∃ x, x = wq := ⟨_, rfl⟩) | ((with_reducible refine gate_store (t := 131) (p := 10) (v := .tmp 37) rfl ?_); refine hx_store rfl rfl 131 (.tmp 10) (.tmp 37) rfl s10 19 rfl (snapC x s p q r).toArray rfl (by kernel_rfl) (snapC_size NR.out) (snapC_one _ _ _ _ _) H10.out NZ1.out ?_; intro wq t_ g_; have H10n := Aside0.mk g_; have OOn := Aside0.mk (Kd.R_kept OO.out (kept_touch t_) (fun k_ hk_ (he_ : k_ = s10) => by have h1_ : k_ < s10 := hk_; omega)); have HBn := Aside0.mk (t_.below HB.out Bs10.out); clear t_ g_; clear H10 OO HB; have H10 := H10n; have OO := OOn; have HB := HBn; clear H10n OOn HBn; obtain ⟨wm, rfl⟩ : ∃ x, x = wq := ⟨_, rfl⟩) | ((with_reducible refine gate_dst (N := 40) rfl ?_); refine hx_neqi rfl 3 3 (.tmp 39) _ rfl Tryd.underlying3 _ 0 rfl rfl true QK ?_))
        go_ret2
        have e_ := BAD.out (.inl (by have := QK.out; simpa using this))
        subst e_
        exact ⟨_, rfl, Kd.R_nil _ _ _ _ _, HB.out⟩
      case false =>
        obtain rfl : k = 0 := by have := QK.out; simpa using this
        obtain ⟨qx, QX⟩ : ∃ q, Aside0 ((x != (i : Int) + 1) = q) := ⟨_, ⟨rfl⟩⟩
        cases qx
        case true =>
          have cx0 := QX.out
          go_wp2_with (first | ((with_reducible refine gate_dst (N := 35) rfl ?_); refine goesL_ (some 35) rfl rfl Tryd.func80 (by kernel_rfl) rfl #[.slice A0 l0.length c0, .int .i64 (b : Int)] rfl (by (try simp only [List.map_toArray, List.map_cons, List.map_nil]); first | done | rfl) ?_; refine (spec_l09At.calls A0 c0 l0 b _ (Kd.C_below HR0.out HB.out) HC0.out PB1.out HLM.out).mono ?_; rintro e_ wq ⟨⟨Ab, cb, rfl, hcb_, hlb_⟩, b_⟩; refine ⟨_, rfl, ?_⟩; have HCB := Aside0.mk hcb_; have HLB := Aside0.mk hlb_; clear hcb_ hlb_; have OOn := Aside0.mk (Kd.R_below OO.out b_); have HBn := Aside0.mk (below_then HB.out HB.out.size b_); clear b_; clear OO HB; have OO := OOn; have HB := HBn; clear OOn HBn; obtain ⟨wm, rfl⟩ : ∃ x, x = wq := ⟨_, rfl⟩) | ((with_reducible refine gate_dst (N := 36) rfl ?_); refine goesL_ (some 36) rfl rfl Tryd.func79 (by kernel_rfl) rfl #[.slice Ab (blk l0 b).length cb] rfl (by (try simp only [List.map_toArray, List.map_cons, List.map_nil]); first | done | rfl) ?_; refine (spec_DecodeSnap.calls Ab cb (blk l0 b) 101 ck HCK.out.1 HCK.out.2 x s p q r _ _ HCB.out HLB.out (blk_byt HBY.out b) HSA.out).mono ?_; rintro e_ wq ⟨rfl, b_⟩; refine ⟨_, rfl, ?_⟩; have OOn := Aside0.mk (Kd.R_below OO.out b_); have HBn := Aside0.mk (below_then HB.out HB.out.size b_); clear HCB HLB; clear b_; clear OO HB; have OO := OOn; have HB := HBn; clear OOn HBn; obtain ⟨wm, rfl⟩ : ∃ x, x = wq := ⟨_, rfl⟩) | ((with_reducible refine gate_dst (N := 10) rfl ?_); refine ex_alloc rfl 10 rfl 131 rfl (.agg z1) z1 Z131 (by first | rfl | simp [Value.cells]) ?_; intro s10 wq Ss10 Ss10' b_ g_; have H10 := Aside0.mk g_; have Bs10 : Aside0 (w.heap.size ≤ s10) := ⟨by rw [← Ss10.out]; exact HB.out.size⟩; have OO' := Aside0.mk (Kd.R_mono (ok' := (fun k_ => k_ < s10)) (Kd.R_bound OO.out) (fun k_ hk_ => by rw [← Ss10.out]; exact hk_.2.2.1)); clear OO; have OO := OO'; clear OO'; clear g_ Ss10 Ss10'; have OOn := Aside0.mk (Kd.R_below OO.out b_); have HBn := Aside0.mk (below_then HB.out HB.out.size b_); clear b_; clear OO HB; have OO := OOn; have HB := HBn; clear OOn HBn; obtain ⟨wm, rfl⟩ : ∃ x, x = wq := ⟨_, rfl⟩) | ((with_reducible refine gate_store (t := 131) (p := 10) (v := .tmp 37) rfl ?_); refine hx_store rfl rfl 131 (.tmp 10) (.tmp 37) rfl s10 19 rfl (snapC x s p q r).toArray rfl (by kernel_rfl) (snapC_size NR.out) (snapC_one _ _ _ _ _) H10.out NZ1.out ?_; intro wq t_ g_; have H10n := Aside0.mk g_; have OOn := Aside0.mk (Kd.R_kept OO.out (kept_touch t_) (fun k_ hk_ (he_ : k_ = s10) => by have h1_ : k_ < s10 := hk_; omega)); have HBn := Aside0.mk (t_.below HB.out Bs10.out); clear t_ g_; clear H10 OO HB; have H10 := H10n; have OO := OOn; have HB := HBn; clear H10n OOn HBn; obtain ⟨wm, rfl⟩ : ∃ x, x = wq := ⟨_, rfl⟩) | ((with_reducible refine gate_dst (N := 40) rfl ?_); refine hx_neqi rfl 3 3 (.tmp 39) _ rfl Tryd.underlying3 _ 0 rfl rfl false QK ?_) | ((with_reducible refine gate_dst (N := 43) rfl ?_); refine Go.Proofs.YtknlpjoidjgciaaDoorW.PrintTab2.ungd (by rfl) ?_; refine wpList_ld1 rfl 3 (.tmp 42) rfl s10 0 rfl (.int .i64 x) Tryd.underlying3 rfl H10.out rfl ?_) | ((with_reducible refine gate_dst (N := 45) rfl ?_); refine Go.Proofs.YtknlpjoidjgciaaDoorW.PrintTab2.ungd (by rfl) ?_; refine hx_addn rfl 3 (.tmp 44) _ rfl i 1 rfl rfl (by have := CI.out; omega) ?_; intro i1 e1_) | ((with_reducible refine gate_dst (N := 46) rfl ?_); refine Go.Proofs.YtknlpjoidjgciaaDoorW.PrintTab2.ungd (by rfl) ?_; refine hx_neqi rfl 3 3 (.tmp 43) (.tmp 45) rfl Tryd.underlying3 x (i1 : Int) rfl rfl true ⟨by rw [e1_.out]; exact QX.out⟩ ?_))
          go_ret2
          have e_ := BAD.out (.inr (.inl (fun h_ => by have := QX.out; rw [h_] at this; simp at this)))
          subst e_
          exact ⟨_, rfl, Kd.R_nil _ _ _ _ _, HB.out⟩
        case false =>
          have HX : Aside0 (x = (i : Int) + 1) := ⟨by have := QX.out; simpa using this⟩
          have cx0 := QX.out
          go_wp2_with (first | ((with_reducible refine gate_dst (N := 35) rfl ?_); refine goesL_ (some 35) rfl rfl Tryd.func80 (by kernel_rfl) rfl #[.slice A0 l0.length c0, .int .i64 (b : Int)] rfl (by (try simp only [List.map_toArray, List.map_cons, List.map_nil]); first | done | rfl) ?_; refine (spec_l09At.calls A0 c0 l0 b _ (Kd.C_below HR0.out HB.out) HC0.out PB1.out HLM.out).mono ?_; rintro e_ wq ⟨⟨Ab, cb, rfl, hcb_, hlb_⟩, b_⟩; refine ⟨_, rfl, ?_⟩; have HCB := Aside0.mk hcb_; have HLB := Aside0.mk hlb_; clear hcb_ hlb_; have OOn := Aside0.mk (Kd.R_below OO.out b_); have HBn := Aside0.mk (below_then HB.out HB.out.size b_); clear b_; clear OO HB; have OO := OOn; have HB := HBn; clear OOn HBn; obtain ⟨wm, rfl⟩ : ∃ x, x = wq := ⟨_, rfl⟩) | ((with_reducible refine gate_dst (N := 36) rfl ?_); refine goesL_ (some 36) rfl rfl Tryd.func79 (by kernel_rfl) rfl #[.slice Ab (blk l0 b).length cb] rfl (by (try simp only [List.map_toArray, List.map_cons, List.map_nil]); first | done | rfl) ?_; refine (spec_DecodeSnap.calls Ab cb (blk l0 b) 101 ck HCK.out.1 HCK.out.2 x s p q r _ _ HCB.out HLB.out (blk_byt HBY.out b) HSA.out).mono ?_; rintro e_ wq ⟨rfl, b_⟩; refine ⟨_, rfl, ?_⟩; have OOn := Aside0.mk (Kd.R_below OO.out b_); have HBn := Aside0.mk (below_then HB.out HB.out.size b_); clear HCB HLB; clear b_; clear OO HB; have OO := OOn; have HB := HBn; clear OOn HBn; obtain ⟨wm, rfl⟩ : ∃ x, x = wq := ⟨_, rfl⟩) | ((with_reducible refine gate_dst (N := 10) rfl ?_); refine ex_alloc rfl 10 rfl 131 rfl (.agg z1) z1 Z131 (by first | rfl | simp [Value.cells]) ?_; intro s10 wq Ss10 Ss10' b_ g_; have H10 := Aside0.mk g_; have Bs10 : Aside0 (w.heap.size ≤ s10) := ⟨by rw [← Ss10.out]; exact HB.out.size⟩; have OO' := Aside0.mk (Kd.R_mono (ok' := (fun k_ => k_ < s10)) (Kd.R_bound OO.out) (fun k_ hk_ => by rw [← Ss10.out]; exact hk_.2.2.1)); clear OO; have OO := OO'; clear OO'; clear g_ Ss10 Ss10'; have OOn := Aside0.mk (Kd.R_below OO.out b_); have HBn := Aside0.mk (below_then HB.out HB.out.size b_); clear b_; clear OO HB; have OO := OOn; have HB := HBn; clear OOn HBn; obtain ⟨wm, rfl⟩ : ∃ x, x = wq := ⟨_, rfl⟩) | ((with_reducible refine gate_store (t := 131) (p := 10) (v := .tmp 37) rfl ?_); refine hx_store rfl rfl 131 (.tmp 10) (.tmp 37) rfl s10 19 rfl (snapC x s p q r).toArray rfl (by kernel_rfl) (snapC_size NR.out) (snapC_one _ _ _ _ _) H10.out NZ1.out ?_; intro wq t_ g_; have H10n := Aside0.mk g_; have OOn := Aside0.mk (Kd.R_kept OO.out (kept_touch t_) (fun k_ hk_ (he_ : k_ = s10) => by have h1_ : k_ < s10 := hk_; omega)); have HBn := Aside0.mk (t_.below HB.out Bs10.out); clear t_ g_; clear H10 OO HB; have H10 := H10n; have OO := OOn; have HB := HBn; clear H10n OOn HBn; obtain ⟨wm, rfl⟩ : ∃ x, x = wq := ⟨_, rfl⟩) | ((with_reducible refine gate_dst (N := 40) rfl ?_); refine hx_neqi rfl 3 3 (.tmp 39) _ rfl Tryd.underlying3 _ 0 rfl rfl false QK ?_) | ((with_reducible refine gate_dst (N := 43) rfl ?_); refine Go.Proofs.YtknlpjoidjgciaaDoorW.PrintTab2.ungd (by rfl) ?_; refine wpList_ld1 rfl 3 (.tmp 42) rfl s10 0 rfl (.int .i64 x) Tryd.underlying3 rfl H10.out rfl ?_) | ((with_reducible refine gate_dst (N := 45) rfl ?_); refine Go.Proofs.YtknlpjoidjgciaaDoorW.PrintTab2.ungd (by rfl) ?_; refine hx_addn rfl 3 (.tmp 44) _ rfl i 1 rfl rfl (by have := CI.out; omega) ?_; intro i1 e1_) | ((with_reducible refine gate_dst (N := 46) rfl ?_); refine Go.Proofs.YtknlpjoidjgciaaDoorW.PrintTab2.ungd (by rfl) ?_; refine hx_neqi rfl 3 3 (.tmp 43) (.tmp 45) rfl Tryd.underlying3 x (i1 : Int) rfl rfl false ⟨by rw [e1_.out]; exact QX.out⟩ ?_))
          (try simp only [Act.put, List.setIfInBounds_toArray, List.set_cons_succ, List.set_cons_zero])
          go_loopw [50] (fun v50 wr => ∃ m : Nat, v50 = .int .i64 (m : Int) ∧ Aside0 (m ≤ O.length) ∧ Aside0 (memB s ((O.map Sn.s).take m) = false) ∧ Aside0 (wr.heap[s10]? = some (.cells (snapC x s p q r).toArray 131 (0, 0))) ∧ Aside0 (Kd.R (cellsK 19) 131 wr w.heap.size (fun k_ => k_ < s10) (.slice A7 O.length c7) (O.map Sn.c)) ∧ Aside0 (Below w.heap.size w wr)) (fun v50 _ => O.length - (intOf v50).toNat)
          case atStart => exact ⟨0, rfl, ⟨Nat.zero_le _⟩, ⟨by simp [memB]⟩, H10, OO, HB⟩
          case round =>
            clear H10 OO HB
            obtain ⟨m, rfl, hm, HM, H10, OO, HB⟩ := hrel
            obtain ⟨wm, rfl⟩ : ∃ x, x = wr := ⟨_, rfl⟩
            by_cases cm : m < O.length
            case pos =>
              have cm0 : decide ((m : Int) < (O.length : Int)) = true := decide_eq_true (by omega)
              have cm1 : decide (m < O.length) = true := decide_eq_true cm
              have q3 : ((m : Int) < (O.length : Int)) = True := eq_true (by omega)
              have q4 : (0 ≤ (m : Int)) = True := eq_true (by omega)
              have q5 : (m < O.length) = True := eq_true cm
              have hol : O.length ≤ 31 := Nat.le_trans (snN_le HN.out) hi.out
              have hwm : wrap64 ((m : Int) + 1) = ((m + 1 : Nat) : Int) := by (unfold wrap64; omega)
              obtain ⟨ad, ea, hl, hc⟩ := cl_at (Kd.R_reads' OO.out).2.2 m (by rw [← (Kd.R_reads' OO.out).1]; exact cm)
              subst ea
              rw [map_getD O m cm] at hl hc
              obtain ⟨y, hy⟩ : ∃ y, y = O[m] := ⟨_, rfl⟩
              rw [← hy] at hl hc
              obtain ⟨x1, s1, p1, q1, r1⟩ := y
              have hl' : (snapC x1 s1 p1 q1 r1).length = 19 := hl
              have HL := Aside0.mk hl'
              have NR1 := Aside0.mk (snapC_len15 hl')
              have HCM : Aside0 (∀ j u, (snapC x1 s1 p1 q1 r1)[j]? = some u → wm.cell? (ad.add (m * 19 + j)) = some u) := ⟨hc⟩
              have CM := Aside0.mk cm
              have HNX : Aside0 (∀ v : Bool, (s1.toList == s.toList) = v → memB s ((O.map Sn.s).take (m + 1)) = v) := ⟨fun v hv => by
                have hh : m < (O.map Sn.s).length := by rw [List.length_map]; exact CM.out
                have h_ := HM.out
                unfold memB at h_ ⊢
                rw [List.take_succ_eq_append_getElem hh, List.any_append, h_, List.getElem_map, ← hy]
                simpa using hv⟩
              clear hl hl' hc hy cm hol
              by_cases cs : s1.toList = s.toList
              case pos =>
                have cs0 : (s1.toList == s.toList) = true := beq_iff_eq.2 cs
                have e_ := BAD.out (.inr (.inr (by
                  have h_ := HNX.out true cs0
                  unfold memB at h_ ⊢
                  obtain ⟨z, hz, h2_⟩ := List.any_eq_true.1 h_
                  exact List.any_eq_true.2 ⟨z, List.mem_of_mem_take hz, h2_⟩)))
                subst e_
                clear cs HNX
                go_wp2_with (first | ((with_reducible refine gate_dst (N := 53) rfl ?_); refine hx_load_c rfl 131 (.tmp 52) rfl (ad.add (m * 19)) rfl (snapC x1 s1 p1 q1 r1) 19 Tryd.underlying131 rfl (by kernel_rfl) HL.out (fun j u hj => by rw [Addr.add_add]; exact HCM.out j u hj) ?_) | ((with_reducible refine gate_dst (N := 13) rfl ?_); refine ex_alloc rfl 13 rfl 131 rfl (.agg z1) z1 Z131 (by first | rfl | simp [Value.cells]) ?_; intro s13 wq Ss13 Ss13' b_ g_; have H13 := Aside0.mk g_; have Bs13 : Aside0 (w.heap.size ≤ s13) := ⟨by rw [← Ss13.out]; exact HB.out.size⟩; have D13 : Aside0 (s10 < s13) := ⟨by rw [← Ss13.out]; exact blk_lt H10.out⟩; clear g_ Ss13 Ss13'; have H10n := Aside0.mk (blk_below H10.out b_); have OOn := Aside0.mk (Kd.R_below OO.out b_); have HBn := Aside0.mk (below_then HB.out HB.out.size b_); clear b_; clear H10 OO HB; have H10 := H10n; have OO := OOn; have HB := HBn; clear H10n OOn HBn; obtain ⟨wm, rfl⟩ : ∃ x, x = wq := ⟨_, rfl⟩) | ((with_reducible refine gate_store (t := 131) (p := 13) (v := .tmp 53) rfl ?_); refine hx_store rfl rfl 131 (.tmp 13) (.tmp 53) rfl s13 19 rfl (snapC x1 s1 p1 q1 r1).toArray rfl (by kernel_rfl) (snapC_size NR1.out) (snapC_one _ _ _ _ _) H13.out NZ1.out ?_; intro wq t_ g_; have H13n := Aside0.mk g_; have H10n := Aside0.mk (t_.keep (show s10 ≠ s13 by have := D13.out; omega) H10.out); have OOn := Aside0.mk (Kd.R_kept OO.out (kept_touch t_) (fun k_ hk_ (he_ : k_ = s13) => by have h1_ : k_ < s10 := hk_; have := D13.out; omega)); have HBn := Aside0.mk (t_.below HB.out Bs13.out); clear t_ g_; clear H13 H10 OO HB; have H13 := H13n; have H10 := H10n; have OO := OOn; have HB := HBn; clear H13n H10n OOn HBn; obtain ⟨wm, rfl⟩ : ∃ x, x = wq := ⟨_, rfl⟩) | ((with_reducible refine gate_dst (N := 55) rfl ?_); refine wpList_ld1 rfl 9 (.tmp 54) rfl s13 1 rfl (.string s1) Tryd.underlying9 rfl H13.out rfl ?_) | ((with_reducible refine gate_dst (N := 57) rfl ?_); refine wpList_ld1 rfl 9 (.tmp 56) rfl s10 1 rfl (.string s) Tryd.underlying9 rfl H10.out rfl ?_))
                go_ret2
                exact ⟨_, rfl, Kd.R_nil _ _ _ _ _, HB.out⟩
              case neg =>
                have cs0 : (s1.toList == s.toList) = false := beq_eq_false_iff_ne.2 cs
                have HM2 := Aside0.mk (HNX.out false cs0)
                clear cs HNX
                go_wp2_with (first | ((with_reducible refine gate_dst (N := 53) rfl ?_); refine hx_load_c rfl 131 (.tmp 52) rfl (ad.add (m * 19)) rfl (snapC x1 s1 p1 q1 r1) 19 Tryd.underlying131 rfl (by kernel_rfl) HL.out (fun j u hj => by rw [Addr.add_add]; exact HCM.out j u hj) ?_) | ((with_reducible refine gate_dst (N := 13) rfl ?_); refine ex_alloc rfl 13 rfl 131 rfl (.agg z1) z1 Z131 (by first | rfl | simp [Value.cells]) ?_; intro s13 wq Ss13 Ss13' b_ g_; have H13 := Aside0.mk g_; have Bs13 : Aside0 (w.heap.size ≤ s13) := ⟨by rw [← Ss13.out]; exact HB.out.size⟩; have D13 : Aside0 (s10 < s13) := ⟨by rw [← Ss13.out]; exact blk_lt H10.out⟩; clear g_ Ss13 Ss13'; have H10n := Aside0.mk (blk_below H10.out b_); have OOn := Aside0.mk (Kd.R_below OO.out b_); have HBn := Aside0.mk (below_then HB.out HB.out.size b_); clear b_; clear H10 OO HB; have H10 := H10n; have OO := OOn; have HB := HBn; clear H10n OOn HBn; obtain ⟨wm, rfl⟩ : ∃ x, x = wq := ⟨_, rfl⟩) | ((with_reducible refine gate_store (t := 131) (p := 13) (v := .tmp 53) rfl ?_); refine hx_store rfl rfl 131 (.tmp 13) (.tmp 53) rfl s13 19 rfl (snapC x1 s1 p1 q1 r1).toArray rfl (by kernel_rfl) (snapC_size NR1.out) (snapC_one _ _ _ _ _) H13.out NZ1.out ?_; intro wq t_ g_; have H13n := Aside0.mk g_; have H10n := Aside0.mk (t_.keep (show s10 ≠ s13 by have := D13.out; omega) H10.out); have OOn := Aside0.mk (Kd.R_kept OO.out (kept_touch t_) (fun k_ hk_ (he_ : k_ = s13) => by have h1_ : k_ < s10 := hk_; have := D13.out; omega)); have HBn := Aside0.mk (t_.below HB.out Bs13.out); clear t_ g_; clear H13 H10 OO HB; have H13 := H13n; have H10 := H10n; have OO := OOn; have HB := HBn; clear H13n H10n OOn HBn; obtain ⟨wm, rfl⟩ : ∃ x, x = wq := ⟨_, rfl⟩) | ((with_reducible refine gate_dst (N := 55) rfl ?_); refine wpList_ld1 rfl 9 (.tmp 54) rfl s13 1 rfl (.string s1) Tryd.underlying9 rfl H13.out rfl ?_) | ((with_reducible refine gate_dst (N := 57) rfl ?_); refine wpList_ld1 rfl 9 (.tmp 56) rfl s10 1 rfl (.string s) Tryd.underlying9 rfl H10.out rfl ?_))
                (try simp only [Act.put, List.setIfInBounds_toArray, List.set_cons_succ, List.set_cons_zero])
                go_roundw
                case rel => exact ⟨m + 1, by first | rw [hwm] | rfl, ⟨by have := CM.out; omega⟩, HM2, H10, OO, HB⟩
                case measure =>
                  (try rw [hwm])
                  simp only [intOf, Int.toNat_natCast]
                  have := CM.out
                  omega
            case neg =>
              obtain rfl : m = O.length := by have := hm.out; omega
              have cm0 : decide ((O.length : Int) < (O.length : Int)) = false := decide_eq_false (by omega)
              have cm1 : decide (O.length < O.length) = false := decide_eq_false cm
              clear cm
              have HNM : Aside0 (memB s (O.map Sn.s) = false) := ⟨by have h_ := HM.out; rwa [List.take_of_length_le (by rw [List.length_map]; exact Nat.le_refl _)] at h_⟩
              obtain ⟨O2, hO2⟩ : ∃ o, o = O ++ [Sn.mk x s p q r] := ⟨_, rfl⟩
              have OE : Aside0 (O.map Sn.c ++ [snapC x s p q r] = O2.map Sn.c) := ⟨by rw [hO2]; simp [Sn.c]⟩
              have HN2 : Aside0 (snN l0 PP (i + 1) = some O2) := ⟨by rw [hO2]; exact snN_step HN.out (snStep_good PB.out B0.out HSD.out rfl HX.out HNM.out)⟩
              clear hO2
              obtain ⟨sl, SL⟩ : ∃ s, Aside0 (wm.heap.size = s) := ⟨_, ⟨rfl⟩⟩
              go_wp2_with (first | ((with_reducible refine gate_dst (N := 61) rfl ?_); refine hx_load rfl 131 (.tmp 10) rfl s10 19 rfl Tryd.underlying131 rfl (by kernel_rfl) H10.out (snapC_size NR.out) ?_) | ((with_reducible refine gate_dst (N := 62) rfl ?_); refine ex_lit1 rfl 62 rfl 71 131 19 (.tmp 61) rfl (snapC x s p q r) rfl (snapC_length NR.out) (snapC_all1 _ _ _ _ _) (s := sl) SL (lit131 x s p q r NR.out) ?_; intro wq b_ C5; have OO' := Aside0.mk (Kd.R_mono (ok' := fun _ => True) (Kd.R_below OO.out b_) (fun _ _ => trivial)); clear OO; have OO := OO'; clear OO'; have HBn := Aside0.mk (below_then HB.out HB.out.size b_); clear b_ HB; have HB := HBn; clear HBn; obtain ⟨wm, rfl⟩ : ∃ x, x = wq := ⟨_, rfl⟩) | ((with_reducible refine gate_dst (N := 63) rfl ?_); refine Kd.R_append_rows (cellsK 19) (w0 := w) w.heap.size rfl (.tmp 60) (.tmp 62) 71 131 (.agg z1) 160 rfl Tryd.underlying71 HI.out NZ1.out (by decide) (by omega) (.slice A7 O.length c7) (O.map Sn.c) [snapC x s p q r] _ _ _ (fun _ => True) (fun _ => False) rfl rfl OO.out C5.out (fun _ _ h => h) (fun _ h => h.elim) (fun _ _ => trivial) HB.out HB.out.size (by have h1_ := snN_le HN.out; have h2_ := CI.out; rw [List.length_map]; show (_ + 1) * 160 ≤ _; omega) ?_; intro vn wq ho_ hb_ hg_ hn_; rw [OE.out] at ho_; obtain ⟨A8, c8, rfl⟩ := Kd.R_slice ho_; rw [show (O2.map Sn.c).length = O2.length from List.length_map ..] at ho_; rw [show (O2.map Sn.c).length = O2.length from List.length_map ..]; have O8 := Aside0.mk ho_; have HBn := Aside0.mk hb_; clear ho_ hb_ hg_ hn_ HB; have HB := HBn; clear HBn; obtain ⟨wm, rfl⟩ : ∃ x, x = wq := ⟨_, rfl⟩))
              (try simp only [Act.put, List.setIfInBounds_toArray, List.set_cons_succ, List.set_cons_zero])
              go_roundw
              case rel => exact ⟨i + 1, O2, A8, c8, by first | rw [hw_] | rfl, rfl, ⟨by have := CI.out; omega⟩, HN2, O8, HB⟩
              case measure =>
                (try rw [hw_])
                simp only [intOf, Int.toNat_natCast]
                have := CI.out
                omega
end Go.Proofs.YtknlpjoidjgciaaDoor.PFnExactSnapshots
