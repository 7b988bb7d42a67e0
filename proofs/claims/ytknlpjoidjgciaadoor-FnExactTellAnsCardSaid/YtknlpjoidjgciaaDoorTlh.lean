/- TellAns: spec.TellAns. -/
import Derived.Test.YtknlpjoidjgciaaDoorTlg
namespace Go.Proofs.YtknlpjoidjgciaaDoor.PFnExactTellAns
open Go.RowKit Go.Proofs.YtknlpjoidjgciaaDoorW.PrintWords Go.Proofs.YtknlpjoidjgciaaDoorW.PrintLast Go.Proofs.YtknlpjoidjgciaaDoorW.PrintMore
open Go.Proofs.YtknlpjoidjgciaaDoorW Go.Proofs.YtknlpjoidjgciaaDoorW.PrintHand Go.Proofs.YtknlpjoidjgciaaDoorW.PrintHx
attribute [local go_sem] max2_int min2_int max_two min_two max_three min_three max_four min_four
set_option linter.unusedVariables false
set_option linter.unusedSimpArgs false
theorem blk_lt' {w0 wm : World} {s : Nat} {o : Obj} (h : Aside0 (wm.heap[s]? = some o)) (_hb : Aside0 (Below s w0 wm)) : s ≤ wm.heap.size := Nat.le_of_lt (blk_lt h.out)
theorem ten_lit {l : List Int} (h : l.length = 10) : l = [l.getD 0 0, l.getD 1 0, l.getD 2 0, l.getD 3 0, l.getD 4 0, l.getD 5 0, l.getD 6 0, l.getD 7 0, l.getD 8 0, l.getD 9 0] := by
  obtain ⟨_, _, _, _, _, _, _, _, _, _, rfl⟩ := ten h
  rfl
set_option maxHeartbeats 8000000 in
set_option maxRecDepth 100000 in
theorem specTell_told (c n : Int) (A2 : Option Addr) (c2 : Nat) (l2 : List Int) (st : List Int) (A13 : Option Addr) (c13 : Nat) (l13 : List S82) (us : List Int) (w : World) (h1 : st.length = 10) (h2 : us.length = 10) (hc : I64 c) (hn : I64 n) (hst : ∀ v ∈ st, I64 v) (hus : ∀ v ∈ us, I64 v) (hr2 : Kd.C (Kd.int .u8) w A2 l2.length l2) (hl2 : l2.length ≤ 1048576) (hr13 : Kd.C k82 w A13 l13.length l13) (hl13 : l13.length ≤ 1048576) (hx13 : ∀ x ∈ l13, GoodX x) :
    Calls Tryd.prog 9 #[.agg (ansC c n (.slice A2 l2.length c2) st (.slice A13 l13.length c13) us).toArray] w fun e w' => e = .returned (.string (tellS c n l2 st l13 us)) ∧ Below w.heap.size w w' := by
  obtain ⟨AC, hAC⟩ : ∃ a, a = (ansC c n (.slice A2 l2.length c2) st (.slice A13 l13.length c13) us).toArray := ⟨_, rfl⟩
  rw [← hAC]
  have K0 : Aside0 (AC[0]? = some (.int .i64 c)) := ⟨by rw [hAC]; rfl⟩
  have K1 : Aside0 (AC[1]? = some (.int .i64 n)) := ⟨by rw [hAC]; rfl⟩
  have K2 : Aside0 (AC[2]? = some (.slice A2 l2.length c2)) := ⟨by rw [hAC]; rfl⟩
  have K13 : Aside0 (AC[13]? = some (.slice A13 l13.length c13)) := ⟨by rw [hAC]; exact ansC_at13 h1⟩
  have KST : Aside0 ((AC.toList.drop 3).take 10 = (nums .i64 st).toArray.toList) := ⟨by rw [hAC]; exact ansC_st h1⟩
  have KUS : Aside0 ((AC.toList.drop 14).take 10 = (nums .i64 us).toArray.toList) := ⟨by rw [hAC]; exact ansC_us h1 h2⟩
  have KSZ : Aside0 (AC.size = 24) := ⟨by rw [hAC]; exact ansC_size h1 h2⟩
  obtain ⟨t1, T1⟩ : ∃ t, Aside0 (t = decS c ++ kSp) := ⟨_, ⟨rfl⟩⟩
  obtain ⟨t2, T2⟩ : ∃ t, Aside0 (t = t1 ++ decS n) := ⟨_, ⟨rfl⟩⟩
  obtain ⟨t3, T3⟩ : ∃ t, Aside0 (t = tell1 t2 l2) := ⟨_, ⟨rfl⟩⟩
  obtain ⟨t4, T4⟩ : ∃ t, Aside0 (t = tellI kStat t3 st) := ⟨_, ⟨rfl⟩⟩
  obtain ⟨t5, T5⟩ : ∃ t, Aside0 (t = tellN t4 l13) := ⟨_, ⟨rfl⟩⟩
  obtain ⟨t6, T6⟩ : ∃ t, Aside0 (t = tellI kUse t5 us) := ⟨_, ⟨rfl⟩⟩
  have E6 : tellS c n l2 st l13 us = t6 := by rw [T6.out, T5.out, T4.out, T3.out, T2.out, T1.out]; rfl
  rw [E6]
  clear E6
  have Z1 : Aside0 (t1.size ≤ 22) := ⟨by rw [T1.out]; exact (tell0_size hc hn).1⟩
  have Z2 : Aside0 (t2.size ≤ 43) := ⟨by rw [T2.out, T1.out]; exact (tell0_size hc hn).2⟩
  have Z3 : Aside0 (t3.size ≤ 3145774) := ⟨by rw [T3.out]; have := tell1_size t2 l2 hl2; have := Z2.out; omega⟩
  have Z4 : Aside0 (t4.size ≤ 3146001) := ⟨by rw [T4.out]; have := tellI_size kStat t3 st h1 hst (by decide); have := Z3.out; omega⟩
  have Z5 : Aside0 (t5.size ≤ 4000000000000) := ⟨by rw [T5.out]; have := tellN_size t4 l13 hx13; have := Z4.out; omega⟩
  have ZN : Aside0 (∀ i, i ≤ l13.length → (tellN t4 (l13.take i)).size ≤ 4000000000000) := ⟨fun i hi => by have hz := Z4.out; have hq := tellN_size t4 (l13.take i) (fun x hx => hx13 x (List.mem_of_mem_take hx)); rw [List.length_take] at hq; omega⟩
  have RC := Aside0.mk hc
  have RN := Aside0.mk hn
  have RS := Aside0.mk hst
  have RU := Aside0.mk hus
  have N1 := Aside0.mk h1
  have N2 := Aside0.mk h2
  have L2 := Aside0.mk hl2
  have L13 := Aside0.mk hl13
  have X13 := Aside0.mk hx13
  have C2 := Aside0.mk hr2
  have C13 := Aside0.mk hr13
  clear hAC h1 h2 hc hn hst hus hr2 hl2 hr13 hl13 hx13
  obtain ⟨s0, hs0⟩ : ∃ s, w.heap.size = s := ⟨_, rfl⟩
  have SB := Aside0.mk hs0
  rw [hs0]
  clear hs0
  go_enter Tryd.func9, Tryd.ntmps9
  go_upto_region 1 with (first | ((with_reducible refine gate_dst (N := 1) rfl ?_); refine hx_box rfl 1 rfl 36 (.tmp 0) rfl SB (.agg AC) AC rfl (by simp [Value.cells]) ?_; intro wm s1 L1 S1 b_ g_; have H0 := Aside0.mk g_; have HB : Aside0 (Below s0 w wm) := ⟨by rw [SB.out] at b_; exact b_⟩; clear b_ g_ L1 S1))
  refine wp_region_held (S := fun w_ => w_.heap[s0]? = some (.cells AC 36 (0, 0))) (by kernel_rfl) ?_
  obtain ⟨wr, hd⟩ : ∃ wd, wd = wm.drew := ⟨_, rfl⟩
  rw [show ({ wm with drawn := wm.drawn + 1 } : World) = wr from hd.symm]
  have b_ : Below wm.heap.size wm wr := by rw [hd]; exact (Below.refl _ _).drew
  clear hd
  have H0n := Aside0.mk (blk_below H0.out b_)
  have HBn := Aside0.mk (below_then HB.out (blk_lt' H0 HB) b_)
  clear b_
  clear H0 HB
  have H0 := H0n
  have HB := HBn
  clear H0n HBn
  obtain ⟨wm, rfl⟩ : ∃ x, x = wr := ⟨_, rfl⟩
  refine wpAnyH_take (i := 0) (v := .pointer (some ⟨s0, 0, none⟩)) rfl (by kernel_rfl) (by kernel_rfl) (by kernel_rfl) (fun _ _ _ h => h) (.inl ⟨rfl, fun w_ hS_ => ?_⟩) H0.out ?_
  · unfold execOp
    go_simp
    (try rfl)
  simp only [List.getElem_toArray, List.getElem_cons_succ, List.getElem_cons_zero, Act.put, List.setIfInBounds_toArray, List.set_cons_succ, List.set_cons_zero]
  refine wpAnyH_take (i := 4) (v := .pointer (some ⟨s0, 1, none⟩)) rfl (by kernel_rfl) (by kernel_rfl) (by kernel_rfl) (fun _ _ _ h => h) (.inl ⟨rfl, fun w_ hS_ => ?_⟩) H0.out ?_
  · unfold execOp
    go_simp
    (try rfl)
  simp only [List.getElem_toArray, List.getElem_cons_succ, List.getElem_cons_zero, Act.put, List.setIfInBounds_toArray, List.set_cons_succ, List.set_cons_zero]
  refine wpAnyH_take (i := 1) (v := .int .i64 c) rfl (by kernel_rfl) (by kernel_rfl) (by kernel_rfl) (fun _ _ _ h => h) (.inl ⟨rfl, fun w_ hS_ => ?_⟩) H0.out ?_
  · exact ch_ld1 hS_ K0.out
  simp only [List.getElem_toArray, List.getElem_cons_succ, List.getElem_cons_zero, Act.put, List.setIfInBounds_toArray, List.set_cons_succ, List.set_cons_zero]
  refine wpAnyH_take (i := 5) (v := .int .i64 n) rfl (by kernel_rfl) (by kernel_rfl) (by kernel_rfl) (fun _ _ _ h => h) (.inl ⟨rfl, fun w_ hS_ => ?_⟩) H0.out ?_
  · exact ch_ld1 hS_ K1.out
  simp only [List.getElem_toArray, List.getElem_cons_succ, List.getElem_cons_zero, Act.put, List.setIfInBounds_toArray, List.set_cons_succ, List.set_cons_zero]
  refine onlyH 2 (by kernel_rfl) ?_
  refine op_call rfl rfl Tryd.func44 (by kernel_rfl) rfl rfl #[.int .i64 c] (by (try simp only [List.map_toArray, List.map_cons, List.map_nil]); first | done | rfl) ?_
  refine (Dec_told c RC.out.1 RC.out.2 _).mono ?_
  rintro e_ wq ⟨rfl, b_⟩
  refine ⟨_, rfl, blk_below H0.out b_, ?_⟩
  have H0n := Aside0.mk (blk_below H0.out b_)
  have HBn := Aside0.mk (below_then HB.out (blk_lt' H0 HB) b_)
  clear b_
  clear H0 HB
  have H0 := H0n
  have HB := HBn
  clear H0n HBn
  obtain ⟨wm, rfl⟩ : ∃ x, x = wq := ⟨_, rfl⟩
  simp only [List.getElem_toArray, List.getElem_cons_succ, List.getElem_cons_zero, Act.put, List.setIfInBounds_toArray, List.set_cons_succ, List.set_cons_zero]
  refine wpAnyH_take (i := 3) (v := .string t1) rfl (by kernel_rfl) (by kernel_rfl) (by kernel_rfl) (fun _ _ _ h => h) (.inl ⟨rfl, fun w_ hS_ => ?_⟩) H0.out ?_
  · (rw [T1.out]; exact ch_cat 9 (.tmp 10) (_) rfl (decS c) kSp rfl rfl (by have := decS_size c RC.out.1 RC.out.2; show _ + 1 ≤ _; omega))
  simp only [List.getElem_toArray, List.getElem_cons_succ, List.getElem_cons_zero, Act.put, List.setIfInBounds_toArray, List.set_cons_succ, List.set_cons_zero]
  refine onlyH 6 (by kernel_rfl) ?_
  refine op_call rfl rfl Tryd.func44 (by kernel_rfl) rfl rfl #[.int .i64 n] (by (try simp only [List.map_toArray, List.map_cons, List.map_nil]); first | done | rfl) ?_
  refine (Dec_told n RN.out.1 RN.out.2 _).mono ?_
  rintro e_ wq ⟨rfl, b_⟩
  refine ⟨_, rfl, blk_below H0.out b_, ?_⟩
  have H0n := Aside0.mk (blk_below H0.out b_)
  have HBn := Aside0.mk (below_then HB.out (blk_lt' H0 HB) b_)
  clear b_
  clear H0 HB
  have H0 := H0n
  have HB := HBn
  clear H0n HBn
  obtain ⟨wm, rfl⟩ : ∃ x, x = wq := ⟨_, rfl⟩
  simp only [List.getElem_toArray, List.getElem_cons_succ, List.getElem_cons_zero, Act.put, List.setIfInBounds_toArray, List.set_cons_succ, List.set_cons_zero]
  refine wpAnyH_take (i := 7) (v := .string t2) rfl (by kernel_rfl) (by kernel_rfl) (by kernel_rfl) (fun _ _ _ h => h) (.inl ⟨rfl, fun w_ hS_ => ?_⟩) H0.out ?_
  · (rw [T2.out]; exact ch_cat 9 (.tmp 11) (.tmp 14) rfl t1 (decS n) rfl rfl (by have := decS_size n RN.out.1 RN.out.2; have := Z1.out; omega))
  simp only [List.getElem_toArray, List.getElem_cons_succ, List.getElem_cons_zero, Act.put, List.setIfInBounds_toArray, List.set_cons_succ, List.set_cons_zero]
  refine wpAnyH_take (i := 8) (v := .string t2) rfl (by kernel_rfl) (by kernel_rfl) (by kernel_rfl) (fun _ _ _ h => h) (.inl ⟨rfl, fun w_ hS_ => ?_⟩) H0.out ?_
  · unfold execOp
    go_simp
    (try rfl)
  simp only [List.getElem_toArray, List.getElem_cons_succ, List.getElem_cons_zero, Act.put, List.setIfInBounds_toArray, List.set_cons_succ, List.set_cons_zero]
  refine wpAnyH_done (by kernel_rfl) ?_ _
  go_upto_if 19 with (first | ((with_reducible refine gate_dst (N := 17) rfl ?_); refine wpList_ld1 rfl 22 (.tmp 16) rfl s0 2 rfl (.slice A2 l2.length c2) Tryd.underlying22 rfl H0.out K2.out ?_))
  go_cut [3] from 8 (fun v3 wc => v3 = .string t3 ∧ Aside0 (wc.heap[s0]? = some (.cells AC 36 (0, 0))) ∧ Aside0 (Below s0 w wc))
  case first =>
    by_cases c1 : l2.length = 0
    case pos =>
      have c1a : decide ((0 : Int) < (l2.length : Int)) = false := decide_eq_false (by omega)
      have c1b : decide (0 < l2.length) = false := decide_eq_false (by omega)
      have e_ : t3 = t2 := by rw [T3.out, tell1, if_pos c1]
      clear c1
      rw [c1b]
      go_wp2
      go_meet
      case rel => exact ⟨by rw [e_], H0, HB⟩
    case neg =>
      have c1a : decide ((0 : Int) < (l2.length : Int)) = true := decide_eq_true (by omega)
      have c1b : decide (0 < l2.length) = true := decide_eq_true (by omega)
      have e_ : Aside0 (t3 = t2 ++ (kData ++ wordS (strOfNums l2))) := ⟨by rw [T3.out, tell1, if_neg c1]⟩
      have C2m := Aside0.mk (cbel C2 SB HB)
      clear c1
      rw [c1b]
      go_wp2_with (first | ((with_reducible refine gate_dst (N := 22) rfl ?_); refine wpList_ld1 rfl 22 (.tmp 21) rfl s0 2 rfl (.slice A2 l2.length c2) Tryd.underlying22 rfl H0.out K2.out ?_) | ((with_reducible refine gate_dst (N := 23) rfl ?_); refine ex_conv rfl 22 9 (.tmp 22) rfl Tryd.underlying22 Tryd.underlying5 Tryd.underlying9 rfl C2m.out 23 rfl ?_) | ((with_reducible refine gate_dst (N := 24) rfl ?_); refine goesL_ (some 24) rfl rfl Tryd.func45 (by kernel_rfl) rfl #[.string (strOfNums l2)] rfl (by (try simp only [List.map_toArray, List.map_cons, List.map_nil]); first | done | rfl) ?_; refine (Word_told (strOfNums l2) (by rw [strS_size]; have := L2.out; omega) _).mono ?_; rintro e_ wq ⟨rfl, b_⟩; refine ⟨_, rfl, ?_⟩; have H0n := Aside0.mk (blk_below H0.out b_); have HBn := Aside0.mk (below_then HB.out (blk_lt' H0 HB) b_); clear b_; clear H0 HB; have H0 := H0n; have HB := HBn; clear H0n HBn; obtain ⟨wm, rfl⟩ : ∃ x, x = wq := ⟨_, rfl⟩) | ((with_reducible refine gate_dst (N := 25) rfl ?_); refine ex_cat rfl 9 (_) (.tmp 24) rfl (kData) ((wordS (strOfNums l2))) rfl rfl (by have := wordS_size (strOfNums l2); rw [strS_size] at this; have := L2.out; show 2 + _ ≤ _; omega) ?_; intro x1 hx1) | ((with_reducible refine gate_dst (N := 26) rfl ?_); refine ex_cat rfl 9 (.tmp 20) (.tmp 25) rfl (t2) (x1) rfl rfl (by have := wordS_size (strOfNums l2); rw [strS_size] at this; have := L2.out; have := Z2.out; have hh : x1.size = 2 + (wordS (strOfNums l2)).size := (by rw [hx1.out, ByteArray.size_append]; rfl); omega) ?_; intro x2 hx2))
      go_meet
      case rel => exact ⟨by rw [e_.out, ← hx1.out, ← hx2.out], H0, HB⟩
  case rest =>
    obtain ⟨rfl, H0n, HBn⟩ := hcut
    clear H0 HB
    have H0 := H0n
    have HB := HBn
    clear H0n HBn
    obtain ⟨wm, rfl⟩ : ∃ x, x = wc := ⟨_, rfl⟩
    obtain ⟨q, Q1⟩ : ∃ q, Aside0 ((!decide (st = List.replicate 10 0)) = q) := ⟨_, ⟨rfl⟩⟩
    go_upto_if 30 with (first | ((with_reducible refine gate_dst (N := 28) rfl ?_); refine wpList_ld rfl 32 (.tmp 27) rfl s0 3 10 rfl (nums .i64 st).toArray Tryd.underlying32 rfl (by kernel_rfl) H0.out (by rw [KSZ.out]; decide) KST.out ?_) | ((with_reducible refine gate_dst (N := 30) rfl ?_); refine ex_neqw rfl (.tmp 28) (.tmp 29) 32 rfl eqw32 (by decide) (by kernel_rfl) st (List.replicate 10 0) rfl rfl N1.out (by simp) 30 rfl q Q1 ?_))
    (try simp only [Act.put, List.setIfInBounds_toArray, List.set_cons_succ, List.set_cons_zero])
    go_cut [3] from 8 (fun v3 wc => v3 = .string t4 ∧ Aside0 (wc.heap[s0]? = some (.cells AC 36 (0, 0))) ∧ Aside0 (Below s0 w wc))
    case first =>
      cases q
      case false =>
        have e_ : t4 = t3 := by (have hq := Q1.out; rw [T4.out, tellI, if_pos (by simpa using hq)])
        go_wp2
        go_meet
        case rel => exact ⟨by rw [e_], H0, HB⟩
      case true =>
        have e_ : Aside0 (t4 = t3 ++ (kStat ++ joinS st)) := ⟨by (have hq := Q1.out; rw [T4.out, tellI, if_neg (by simpa using hq)])⟩
        go_wp2_with (first | ((with_reducible refine gate_dst (N := 32) rfl ?_); refine wpList_ld rfl 32 (.tmp 31) rfl s0 3 10 rfl (nums .i64 st).toArray Tryd.underlying32 rfl (by kernel_rfl) H0.out (by rw [KSZ.out]; decide) KST.out ?_) | ((with_reducible refine gate_dst (N := 4) rfl ?_); refine ex_alloc rfl 4 rfl 32 rfl (.agg (nums .i64 (List.replicate 10 0)).toArray) (nums .i64 (List.replicate 10 0)).toArray Tryd.zeroValue32 (by rfl) ?_; intro sa wq SA SAq b_ g_; have HA := Aside0.mk g_; have S0A : Aside0 (s0 < sa) := ⟨by rw [← SA.out]; exact blk_lt H0.out⟩; clear g_ SAq SA; have H0n := Aside0.mk (blk_below H0.out b_); have HBn := Aside0.mk (below_then HB.out (blk_lt' H0 HB) b_); clear b_; clear H0 HB; have H0 := H0n; have HB := HBn; clear H0n HBn; obtain ⟨wm, rfl⟩ : ∃ x, x = wq := ⟨_, rfl⟩) | ((with_reducible refine gate_store (t := 32) (p := 4) (v := .tmp 32) rfl ?_); refine hx_store rfl rfl 32 (.tmp 4) (.tmp 32) rfl sa 10 rfl (nums .i64 st).toArray rfl (by kernel_rfl) (by simp [nums, N1.out]) (nums_one _ _) HA.out (by simp [nums]) ?_; intro wq t_ g_; have HAn := Aside0.mk g_; have H0n := Aside0.mk (t_.keep (show s0 ≠ sa by have := S0A.out; omega) H0.out); have HBn := Aside0.mk (t_.below HB.out (by have := S0A.out; omega)); clear t_ g_; clear HA H0 HB; have HA := HAn; have H0 := H0n; have HB := HBn; clear HAn H0n HBn; obtain ⟨wm, rfl⟩ : ∃ x, x = wq := ⟨_, rfl⟩) | ((with_reducible refine gate_dst (N := 35) rfl ?_); refine wpList_ld1 rfl 3 (.tmp 34) rfl sa 0 rfl (.int .i64 (st.getD 0 0)) Tryd.underlying3 rfl HA.out (by simp [nums, List.getElem?_eq_getElem (show 0 < st.length by rw [N1.out]; decide)]) ?_) | ((with_reducible refine gate_dst (N := 37) rfl ?_); refine wpList_ld1 rfl 3 (.tmp 36) rfl sa 1 rfl (.int .i64 (st.getD 1 0)) Tryd.underlying3 rfl HA.out (by simp [nums, List.getElem?_eq_getElem (show 1 < st.length by rw [N1.out]; decide)]) ?_) | ((with_reducible refine gate_dst (N := 39) rfl ?_); refine wpList_ld1 rfl 3 (.tmp 38) rfl sa 2 rfl (.int .i64 (st.getD 2 0)) Tryd.underlying3 rfl HA.out (by simp [nums, List.getElem?_eq_getElem (show 2 < st.length by rw [N1.out]; decide)]) ?_) | ((with_reducible refine gate_dst (N := 41) rfl ?_); refine wpList_ld1 rfl 3 (.tmp 40) rfl sa 3 rfl (.int .i64 (st.getD 3 0)) Tryd.underlying3 rfl HA.out (by simp [nums, List.getElem?_eq_getElem (show 3 < st.length by rw [N1.out]; decide)]) ?_) | ((with_reducible refine gate_dst (N := 43) rfl ?_); refine wpList_ld1 rfl 3 (.tmp 42) rfl sa 4 rfl (.int .i64 (st.getD 4 0)) Tryd.underlying3 rfl HA.out (by simp [nums, List.getElem?_eq_getElem (show 4 < st.length by rw [N1.out]; decide)]) ?_) | ((with_reducible refine gate_dst (N := 45) rfl ?_); refine wpList_ld1 rfl 3 (.tmp 44) rfl sa 5 rfl (.int .i64 (st.getD 5 0)) Tryd.underlying3 rfl HA.out (by simp [nums, List.getElem?_eq_getElem (show 5 < st.length by rw [N1.out]; decide)]) ?_) | ((with_reducible refine gate_dst (N := 47) rfl ?_); refine wpList_ld1 rfl 3 (.tmp 46) rfl sa 6 rfl (.int .i64 (st.getD 6 0)) Tryd.underlying3 rfl HA.out (by simp [nums, List.getElem?_eq_getElem (show 6 < st.length by rw [N1.out]; decide)]) ?_) | ((with_reducible refine gate_dst (N := 49) rfl ?_); refine wpList_ld1 rfl 3 (.tmp 48) rfl sa 7 rfl (.int .i64 (st.getD 7 0)) Tryd.underlying3 rfl HA.out (by simp [nums, List.getElem?_eq_getElem (show 7 < st.length by rw [N1.out]; decide)]) ?_) | ((with_reducible refine gate_dst (N := 51) rfl ?_); refine wpList_ld1 rfl 3 (.tmp 50) rfl sa 8 rfl (.int .i64 (st.getD 8 0)) Tryd.underlying3 rfl HA.out (by simp [nums, List.getElem?_eq_getElem (show 8 < st.length by rw [N1.out]; decide)]) ?_) | ((with_reducible refine gate_dst (N := 53) rfl ?_); refine wpList_ld1 rfl 3 (.tmp 52) rfl sa 9 rfl (.int .i64 (st.getD 9 0)) Tryd.underlying3 rfl HA.out (by simp [nums, List.getElem?_eq_getElem (show 9 < st.length by rw [N1.out]; decide)]) ?_) | ((with_reducible refine gate_dst (N := 54) rfl ?_); refine Kd.R_lit (Kd.int .i64) (w0 := wm) wm.heap.size 3 ?hg (N := 54) ?hd (xs := st) (inner := nums .i64 st) (ok := fun _ => True) (okp := fun _ => True) ?hr ?hp (fun _ hk => hk) trivial (Below.refl _ _) (Nat.le_refl _) (by rw [N1.out]; decide) ?_; (case hd => rfl); (case hg => rfl); (case hr => rw [ten_lit N1.out]; first | (go_simp; done) | (go_simp; rfl)); (case hp => exact reps_ints _); intro vl wq ol_ b_ hg_ hnew_; clear hg_ hnew_; obtain ⟨Al, cl, rfl⟩ := Kd.R_slice ol_; have OL := Aside0.mk ol_; clear ol_; have H0n := Aside0.mk (blk_below H0.out b_); have HBn := Aside0.mk (below_then HB.out (blk_lt' H0 HB) b_); clear b_; clear H0 HB; have H0 := H0n; have HB := HBn; clear H0n HBn; obtain ⟨wm, rfl⟩ : ∃ x, x = wq := ⟨_, rfl⟩) | ((with_reducible refine gate_dst (N := 55) rfl ?_); refine goesL_ (some 55) rfl rfl Tryd.func46 (by kernel_rfl) rfl #[.slice Al st.length cl] rfl (by (try simp only [List.map_toArray, List.map_cons, List.map_nil]); first | done | rfl) ?_; refine (Join_told Al cl st _ (Kd.R_reads' OL.out).2.2 (by rw [N1.out]; decide) RS.out).mono ?_; rintro e_ wq ⟨rfl, b_⟩; refine ⟨_, rfl, ?_⟩; have H0n := Aside0.mk (blk_below H0.out b_); have HBn := Aside0.mk (below_then HB.out (blk_lt' H0 HB) b_); clear b_; clear H0 HB; have H0 := H0n; have HB := HBn; clear H0n HBn; obtain ⟨wm, rfl⟩ : ∃ x, x = wq := ⟨_, rfl⟩) | ((with_reducible refine gate_dst (N := 56) rfl ?_); refine ex_cat rfl 9 (_) (.tmp 55) rfl (kStat) ((joinS st)) rfl rfl (by have hj_ := joinS_size st RS.out; rw [N1.out] at hj_; show 6 + _ ≤ _; omega) ?_; intro x1 hx1) | ((with_reducible refine gate_dst (N := 57) rfl ?_); refine ex_cat rfl 9 (.tmp 33) (.tmp 56) rfl (t3) (x1) rfl rfl (by have hj_ := joinS_size st RS.out; rw [N1.out] at hj_; have := Z3.out; have hh : x1.size = 6 + (joinS st).size := (by rw [hx1.out, ByteArray.size_append]; rfl); omega) ?_; intro x2 hx2))
        go_meet
        case rel => exact ⟨by rw [e_.out, ← hx1.out, ← hx2.out], H0, HB⟩
    case rest =>
      obtain ⟨rfl, H0n, HBn⟩ := hcut
      clear H0 HB
      have H0 := H0n
      have HB := HBn
      clear H0n HBn
      obtain ⟨wm, rfl⟩ : ∃ x, x = wc := ⟨_, rfl⟩
      obtain ⟨L_, hL_⟩ : ∃ L, L = l13.length := ⟨_, rfl⟩
      go_wp2_with (first | ((with_reducible refine gate_dst (N := 59) rfl ?_); refine wpList_ld1 rfl 33 (.tmp 58) rfl s0 13 rfl (.slice A13 l13.length c13) Tryd.underlying33 rfl H0.out K13.out ?_))
      (try simp only [Act.put, List.setIfInBounds_toArray, List.set_cons_succ, List.set_cons_zero])
      go_loopg [3, 61] l13.length (fun kq v3 vk wr => ∃ (i : Nat) (s : ByteArray), v3 = .string s ∧ vk = .int .i64 (i : Int) ∧ Aside0 (kq + i = l13.length) ∧ Aside0 (s = tellN t4 (l13.take i)) ∧ Aside0 (wr.heap[s0]? = some (.cells AC 36 (0, 0))) ∧ Aside0 (Below s0 w wr))
      case atStart => exact ⟨0, _, rfl, rfl, ⟨by simp⟩, ⟨by simp [tellN]⟩, H0, HB⟩
      case round =>
        clear H0 HB
        obtain ⟨i, s, rfl, rfl, hki, HS, H0, HB⟩ := hrel
        obtain ⟨wm, rfl⟩ : ∃ x, x = wr := ⟨_, rfl⟩
        by_cases ci : i < l13.length
        case pos =>
          have ci0 : decide ((i : Int) < (l13.length : Int)) = true := decide_eq_true (by omega)
          have ci1 : decide (i < l13.length) = true := decide_eq_true ci
          have ci2 : ((i : Int) < (l13.length : Int)) = True := eq_true (by omega)
          have ci3 : (0 ≤ (i : Int)) = True := eq_true (by omega)
          have ci4 : (i < l13.length) = True := eq_true ci
          have CI := Aside0.mk ci
          clear ci
          have hw_ : wrap64 ((i : Int) + 1) = ((i + 1 : Nat) : Int) := by (have := CI.out; have := L13.out; unfold wrap64; omega)
          have ZS : Aside0 (s.size ≤ 4000000000000) := ⟨by rw [HS.out]; exact ZN.out i (by have := CI.out; omega)⟩
          obtain ⟨ad, ea, hx0, hx1, hx2⟩ := at_T82 (cbel C13 SB HB) (i : Int) (by omega) (by have := CI.out; omega)
          cases ea
          obtain ⟨x, hx⟩ : ∃ x, x = rd_T82 l13 (i : Int) := ⟨_, rfl⟩
          have HX : Aside0 (x = l13[i]'CI.out) := ⟨by rw [hx]; simp [rd_T82, List.getD_eq_getElem?_getD, List.getElem?_eq_getElem CI.out]⟩
          have GX : Aside0 (GoodX x) := ⟨by rw [HX.out]; exact X13.out _ (List.getElem_mem _)⟩
          rw [← hx] at hx0 hx1 hx2
          clear hx
          obtain ⟨nm, f1, f2⟩ := x
          dsimp only at hx0 hx1 hx2
          rw [Int.toNat_natCast] at hx0 hx1 hx2
          have GN : Aside0 (nm.size ≤ 1048576) := ⟨GX.out.1⟩
          have GJ : Aside0 (∀ v ∈ [f1, f2], I64 v) := ⟨by intro v hv; rcases List.mem_cons.1 hv with rfl | hv; exact GX.out.2.1; rcases List.mem_cons.1 hv with rfl | hv; exact GX.out.2.2; cases hv⟩
          obtain ⟨y1, Y1⟩ : ∃ y, Aside0 (y = kSp ++ wordS nm) := ⟨_, ⟨rfl⟩⟩
          obtain ⟨y2, Y2⟩ : ∃ y, Aside0 (y = y1 ++ kCol) := ⟨_, ⟨rfl⟩⟩
          obtain ⟨y3, Y3⟩ : ∃ y, Aside0 (y = y2 ++ joinS [f1, f2]) := ⟨_, ⟨rfl⟩⟩
          obtain ⟨y4, Y4⟩ : ∃ y, Aside0 (y = s ++ y3) := ⟨_, ⟨rfl⟩⟩
          have ZW : Aside0 ((wordS nm).size ≤ 3145729) := ⟨by have := wordS_size nm; have := GN.out; omega⟩
          have ZJ : Aside0 ((joinS [f1, f2]).size ≤ 44) := ⟨by have := joinS_size [f1, f2] GJ.out; simpa using this⟩
          have ZY1 : Aside0 (y1.size ≤ 3145730) := ⟨by rw [Y1.out, ByteArray.size_append]; have := ZW.out; show 1 + _ ≤ _; omega⟩
          have ZY2 : Aside0 (y2.size ≤ 3145731) := ⟨by rw [Y2.out, ByteArray.size_append]; have := ZY1.out; show _ + 1 ≤ _; omega⟩
          have ZY3 : Aside0 (y3.size ≤ 3145775) := ⟨by rw [Y3.out, ByteArray.size_append]; have := ZY2.out; have := ZJ.out; omega⟩
          have YE : Aside0 (y4 = tellN t4 (l13.take (i + 1))) := ⟨by rw [Y4.out, Y3.out, Y2.out, Y1.out, HS.out, List.take_succ_eq_append_getElem CI.out, tellN_snoc, ← HX.out]; rfl⟩
          go_upto_region 10 with (first | ((with_reducible refine gate_dst (N := 6) rfl ?_); refine ex_alloc rfl 6 rfl 82 rfl (.agg #[.string ⟨#[]⟩, .int .i64 0, .int .i64 0]) #[.string ⟨#[]⟩, .int .i64 0, .int .i64 0] Tryd.zeroValue82 rfl ?_; intro sa wq SA SAq b_ g_; have HA := Aside0.mk g_; have S0A : Aside0 (s0 < sa) := ⟨by rw [← SA.out]; exact blk_lt H0.out⟩; clear g_ SAq SA; have H0n := Aside0.mk (blk_below H0.out b_); have HBn := Aside0.mk (below_then HB.out (blk_lt' H0 HB) b_); clear b_; clear H0 HB; have H0 := H0n; have HB := HBn; clear H0n HBn; obtain ⟨wm, rfl⟩ : ∃ x, x = wq := ⟨_, rfl⟩) | ((with_reducible refine gate_store (t := 82) (p := 6) (v := .tmp 64) rfl ?_); refine hx_store rfl rfl 82 (.tmp 6) (.tmp 64) rfl sa 3 rfl #[.string nm, .int .i64 f1, .int .i64 f2] rfl (by kernel_rfl) rfl rfl HA.out rfl ?_; intro wq t_ g_; have HAn := Aside0.mk g_; have H0n := Aside0.mk (t_.keep (show s0 ≠ sa by have := S0A.out; omega) H0.out); have HBn := Aside0.mk (t_.below HB.out (by have := S0A.out; omega)); clear t_ g_; clear HA H0 HB; have HA := HAn; have H0 := H0n; have HB := HBn; clear HAn H0n HBn; obtain ⟨wm, rfl⟩ : ∃ x, x = wq := ⟨_, rfl⟩))
          refine wp_region_held (S := fun w_ => w_.heap[sa]? = some (.cells #[.string nm, .int .i64 f1, .int .i64 f2] 82 (0, 0))) (by kernel_rfl) ?_
          obtain ⟨wr, hd⟩ : ∃ wd, wd = wm.drew := ⟨_, rfl⟩
          rw [show ({ wm with drawn := wm.drawn + 1 } : World) = wr from hd.symm]
          have b_ : Below wm.heap.size wm wr := by rw [hd]; exact (Below.refl _ _).drew
          clear hd
          have H0n := Aside0.mk (blk_below H0.out b_)
          have HAn := Aside0.mk (blk_below HA.out b_)
          have HBn := Aside0.mk (below_then HB.out (blk_lt' H0 HB) b_)
          clear b_
          clear H0 HA HB
          have H0 := H0n
          have HA := HAn
          have HB := HBn
          clear H0n HAn HBn
          obtain ⟨wm, rfl⟩ : ∃ x, x = wr := ⟨_, rfl⟩
          refine wpAnyH_take (i := 0) (v := .string s) rfl (by kernel_rfl) (by kernel_rfl) (by kernel_rfl) (fun _ _ _ h => h) (.inl ⟨rfl, fun w_ hS_ => ?_⟩) HA.out ?_
          · unfold execOp
            go_simp
            (try rfl)
          simp only [List.getElem_toArray, List.getElem_cons_succ, List.getElem_cons_zero, Act.put, List.setIfInBounds_toArray, List.set_cons_succ, List.set_cons_zero]
          refine wpAnyH_take (i := 1) (v := .pointer (some ⟨sa, 0, none⟩)) rfl (by kernel_rfl) (by kernel_rfl) (by kernel_rfl) (fun _ _ _ h => h) (.inl ⟨rfl, fun w_ hS_ => ?_⟩) HA.out ?_
          · unfold execOp
            go_simp
            (try rfl)
          simp only [List.getElem_toArray, List.getElem_cons_succ, List.getElem_cons_zero, Act.put, List.setIfInBounds_toArray, List.set_cons_succ, List.set_cons_zero]
          refine wpAnyH_take (i := 6) (v := .pointer (some ⟨sa, 1, none⟩)) rfl (by kernel_rfl) (by kernel_rfl) (by kernel_rfl) (fun _ _ _ h => h) (.inl ⟨rfl, fun w_ hS_ => ?_⟩) HA.out ?_
          · unfold execOp
            go_simp
            (try rfl)
          simp only [List.getElem_toArray, List.getElem_cons_succ, List.getElem_cons_zero, Act.put, List.setIfInBounds_toArray, List.set_cons_succ, List.set_cons_zero]
          refine wpAnyH_take (i := 8) (v := .pointer (some ⟨sa, 2, none⟩)) rfl (by kernel_rfl) (by kernel_rfl) (by kernel_rfl) (fun _ _ _ h => h) (.inl ⟨rfl, fun w_ hS_ => ?_⟩) HA.out ?_
          · unfold execOp
            go_simp
            (try rfl)
          simp only [List.getElem_toArray, List.getElem_cons_succ, List.getElem_cons_zero, Act.put, List.setIfInBounds_toArray, List.set_cons_succ, List.set_cons_zero]
          refine wpAnyH_take (i := 2) (v := .string nm) rfl (by kernel_rfl) (by kernel_rfl) (by kernel_rfl) (fun _ _ _ h => h) (.inl ⟨rfl, fun w_ hS_ => ?_⟩) HA.out ?_
          · exact ch_ld1 hS_ rfl
          simp only [List.getElem_toArray, List.getElem_cons_succ, List.getElem_cons_zero, Act.put, List.setIfInBounds_toArray, List.set_cons_succ, List.set_cons_zero]
          refine wpAnyH_take (i := 7) (v := .int .i64 f1) rfl (by kernel_rfl) (by kernel_rfl) (by kernel_rfl) (fun _ _ _ h => h) (.inl ⟨rfl, fun w_ hS_ => ?_⟩) HA.out ?_
          · exact ch_ld1 hS_ rfl
          simp only [List.getElem_toArray, List.getElem_cons_succ, List.getElem_cons_zero, Act.put, List.setIfInBounds_toArray, List.set_cons_succ, List.set_cons_zero]
          refine wpAnyH_take (i := 9) (v := .int .i64 f2) rfl (by kernel_rfl) (by kernel_rfl) (by kernel_rfl) (fun _ _ _ h => h) (.inl ⟨rfl, fun w_ hS_ => ?_⟩) HA.out ?_
          · exact ch_ld1 hS_ rfl
          simp only [List.getElem_toArray, List.getElem_cons_succ, List.getElem_cons_zero, Act.put, List.setIfInBounds_toArray, List.set_cons_succ, List.set_cons_zero]
          refine bothH 3 10 (by kernel_rfl) ?_ ?_
          · skip
            skip
            refine op_call rfl rfl Tryd.func45 (by kernel_rfl) rfl rfl #[.string nm] (by (try simp only [List.map_toArray, List.map_cons, List.map_nil]); first | done | rfl) ?_
            refine (Word_told nm (by have := GN.out; omega) _).mono ?_
            rintro e_ wq ⟨rfl, b_⟩
            refine ⟨_, rfl, blk_below HA.out b_, ?_⟩
            have H0n := Aside0.mk (blk_below H0.out b_)
            have HAn := Aside0.mk (blk_below HA.out b_)
            have HBn := Aside0.mk (below_then HB.out (blk_lt' H0 HB) b_)
            clear b_
            clear H0 HA HB
            have H0 := H0n
            have HA := HAn
            have HB := HBn
            clear H0n HAn HBn
            obtain ⟨wm, rfl⟩ : ∃ x, x = wq := ⟨_, rfl⟩
            simp only [List.getElem_toArray, List.getElem_cons_succ, List.getElem_cons_zero, Act.put, List.setIfInBounds_toArray, List.set_cons_succ, List.set_cons_zero]
            refine wpAnyH_take (i := 4) (v := .string y1) rfl (by kernel_rfl) (by kernel_rfl) (by kernel_rfl) (fun _ _ _ h => h) (.inl ⟨rfl, fun w_ hS_ => ?_⟩) HA.out ?_
            · (rw [Y1.out]; exact ch_cat 9 (_) (.tmp 68) rfl kSp (wordS nm) rfl rfl (by have := ZW.out; show 1 + _ ≤ _; omega))
            simp only [List.getElem_toArray, List.getElem_cons_succ, List.getElem_cons_zero, Act.put, List.setIfInBounds_toArray, List.set_cons_succ, List.set_cons_zero]
            refine wpAnyH_take (i := 5) (v := .string y2) rfl (by kernel_rfl) (by kernel_rfl) (by kernel_rfl) (fun _ _ _ h => h) (.inl ⟨rfl, fun w_ hS_ => ?_⟩) HA.out ?_
            · (rw [Y2.out]; exact ch_cat 9 (.tmp 69) (_) rfl y1 kCol rfl rfl (by have := ZY1.out; show _ + 1 ≤ _; omega))
            simp only [List.getElem_toArray, List.getElem_cons_succ, List.getElem_cons_zero, Act.put, List.setIfInBounds_toArray, List.set_cons_succ, List.set_cons_zero]
            refine onlyH 10 (by kernel_rfl) ?_
            refine op_step rfl ?_
            refine Kd.R_lit_step (Kd.int .i64) (w0 := wm) wm.heap.size 3 rfl (N := 75) rfl (xs := [f1, f2]) (inner := [.int .i64 f1, .int .i64 f2]) (ok := fun _ => True) (okp := fun _ => True) ?hr (reps_ints [f1, f2]) (fun _ hk => hk) trivial (Below.refl _ _) (Nat.le_refl _) (by simp) ?_
            case hr => first | (go_simp; done) | (go_simp; rfl)
            intro vl wq ol_ b_ hg_ hnew_
            clear hg_ hnew_
            obtain ⟨Al, cl, rfl⟩ := Kd.R_slice ol_
            have OL := Aside0.mk ol_
            clear ol_
            refine ⟨blk_below HA.out b_, ?_⟩
            have H0n := Aside0.mk (blk_below H0.out b_)
            have HAn := Aside0.mk (blk_below HA.out b_)
            have HBn := Aside0.mk (below_then HB.out (blk_lt' H0 HB) b_)
            clear b_
            clear H0 HA HB
            have H0 := H0n
            have HA := HAn
            have HB := HBn
            clear H0n HAn HBn
            obtain ⟨wm, rfl⟩ : ∃ x, x = wq := ⟨_, rfl⟩
            simp only [List.getElem_toArray, List.getElem_cons_succ, List.getElem_cons_zero, Act.put, List.setIfInBounds_toArray, List.set_cons_succ, List.set_cons_zero]
            refine onlyH 11 (by kernel_rfl) ?_
            refine op_call rfl rfl Tryd.func46 (by kernel_rfl) rfl rfl #[.slice Al [f1, f2].length cl] (by (try simp only [List.map_toArray, List.map_cons, List.map_nil]); first | done | rfl) ?_
            refine (Join_told Al cl [f1, f2] _ (Kd.R_reads' OL.out).2.2 (by simp) GJ.out).mono ?_
            rintro e_ wq ⟨rfl, b_⟩
            refine ⟨_, rfl, blk_below HA.out b_, ?_⟩
            have H0n := Aside0.mk (blk_below H0.out b_)
            have HAn := Aside0.mk (blk_below HA.out b_)
            have HBn := Aside0.mk (below_then HB.out (blk_lt' H0 HB) b_)
            clear b_
            clear H0 HA HB
            have H0 := H0n
            have HA := HAn
            have HB := HBn
            clear H0n HAn HBn
            obtain ⟨wm, rfl⟩ : ∃ x, x = wq := ⟨_, rfl⟩
            simp only [List.getElem_toArray, List.getElem_cons_succ, List.getElem_cons_zero, Act.put, List.setIfInBounds_toArray, List.set_cons_succ, List.set_cons_zero]
            refine wpAnyH_take (i := 12) (v := .string y3) rfl (by kernel_rfl) (by kernel_rfl) (by kernel_rfl) (fun _ _ _ h => h) (.inl ⟨rfl, fun w_ hS_ => ?_⟩) HA.out ?_
            · (rw [Y3.out]; exact ch_cat 9 (.tmp 70) (.tmp 76) rfl y2 (joinS [f1, f2]) rfl rfl (by have := ZY2.out; have := ZJ.out; omega))
            simp only [List.getElem_toArray, List.getElem_cons_succ, List.getElem_cons_zero, Act.put, List.setIfInBounds_toArray, List.set_cons_succ, List.set_cons_zero]
            refine wpAnyH_take (i := 13) (v := .string y4) rfl (by kernel_rfl) (by kernel_rfl) (by kernel_rfl) (fun _ _ _ h => h) (.inl ⟨rfl, fun w_ hS_ => ?_⟩) HA.out ?_
            · (rw [Y4.out]; exact ch_cat 9 (.tmp 65) (.tmp 77) rfl s y3 rfl rfl (by have := ZS.out; have := ZY3.out; omega))
            simp only [List.getElem_toArray, List.getElem_cons_succ, List.getElem_cons_zero, Act.put, List.setIfInBounds_toArray, List.set_cons_succ, List.set_cons_zero]
            refine wpAnyH_take (i := 14) (v := .string y4) rfl (by kernel_rfl) (by kernel_rfl) (by kernel_rfl) (fun _ _ _ h => h) (.inl ⟨rfl, fun w_ hS_ => ?_⟩) HA.out ?_
            · unfold execOp
              go_simp
              (try rfl)
            simp only [List.getElem_toArray, List.getElem_cons_succ, List.getElem_cons_zero, Act.put, List.setIfInBounds_toArray, List.set_cons_succ, List.set_cons_zero]
            refine wpAnyH_done (by kernel_rfl) ?_ _
            go_wp2
            cases gk with
            | zero => exact absurd CI.out (by have := hki.out; omega)
            | succ gk =>
              go_roundg gk
              case measure => omega
              case rel => exact ⟨i + 1, _, rfl, by first | rfl | rw [hw_], ⟨by have := hki.out; omega⟩, YE, H0, HB⟩
          · skip
            refine op_step rfl ?_
            refine Kd.R_lit_step (Kd.int .i64) (w0 := wm) wm.heap.size 3 rfl (N := 75) rfl (xs := [f1, f2]) (inner := [.int .i64 f1, .int .i64 f2]) (ok := fun _ => True) (okp := fun _ => True) ?hr (reps_ints [f1, f2]) (fun _ hk => hk) trivial (Below.refl _ _) (Nat.le_refl _) (by simp) ?_
            case hr => first | (go_simp; done) | (go_simp; rfl)
            intro vl wq ol_ b_ hg_ hnew_
            clear hg_ hnew_
            obtain ⟨Al, cl, rfl⟩ := Kd.R_slice ol_
            have OL := Aside0.mk ol_
            clear ol_
            refine ⟨blk_below HA.out b_, ?_⟩
            have H0n := Aside0.mk (blk_below H0.out b_)
            have HAn := Aside0.mk (blk_below HA.out b_)
            have HBn := Aside0.mk (below_then HB.out (blk_lt' H0 HB) b_)
            clear b_
            clear H0 HA HB
            have H0 := H0n
            have HA := HAn
            have HB := HBn
            clear H0n HAn HBn
            obtain ⟨wm, rfl⟩ : ∃ x, x = wq := ⟨_, rfl⟩
            simp only [List.getElem_toArray, List.getElem_cons_succ, List.getElem_cons_zero, Act.put, List.setIfInBounds_toArray, List.set_cons_succ, List.set_cons_zero]
            refine onlyH 3 (by kernel_rfl) ?_
            refine op_call rfl rfl Tryd.func45 (by kernel_rfl) rfl rfl #[.string nm] (by (try simp only [List.map_toArray, List.map_cons, List.map_nil]); first | done | rfl) ?_
            refine (Word_told nm (by have := GN.out; omega) _).mono ?_
            rintro e_ wq ⟨rfl, b_⟩
            refine ⟨_, rfl, blk_below HA.out b_, ?_⟩
            have H0n := Aside0.mk (blk_below H0.out b_)
            have HAn := Aside0.mk (blk_below HA.out b_)
            have HBn := Aside0.mk (below_then HB.out (blk_lt' H0 HB) b_)
            have OLn := Aside0.mk (Kd.R_below OL.out b_)
            clear b_
            clear H0 HA HB OL
            have H0 := H0n
            have HA := HAn
            have HB := HBn
            have OL := OLn
            clear H0n HAn HBn OLn
            obtain ⟨wm, rfl⟩ : ∃ x, x = wq := ⟨_, rfl⟩
            simp only [List.getElem_toArray, List.getElem_cons_succ, List.getElem_cons_zero, Act.put, List.setIfInBounds_toArray, List.set_cons_succ, List.set_cons_zero]
            refine wpAnyH_take (i := 4) (v := .string y1) rfl (by kernel_rfl) (by kernel_rfl) (by kernel_rfl) (fun _ _ _ h => h) (.inl ⟨rfl, fun w_ hS_ => ?_⟩) HA.out ?_
            · (rw [Y1.out]; exact ch_cat 9 (_) (.tmp 68) rfl kSp (wordS nm) rfl rfl (by have := ZW.out; show 1 + _ ≤ _; omega))
            simp only [List.getElem_toArray, List.getElem_cons_succ, List.getElem_cons_zero, Act.put, List.setIfInBounds_toArray, List.set_cons_succ, List.set_cons_zero]
            refine wpAnyH_take (i := 5) (v := .string y2) rfl (by kernel_rfl) (by kernel_rfl) (by kernel_rfl) (fun _ _ _ h => h) (.inl ⟨rfl, fun w_ hS_ => ?_⟩) HA.out ?_
            · (rw [Y2.out]; exact ch_cat 9 (.tmp 69) (_) rfl y1 kCol rfl rfl (by have := ZY1.out; show _ + 1 ≤ _; omega))
            simp only [List.getElem_toArray, List.getElem_cons_succ, List.getElem_cons_zero, Act.put, List.setIfInBounds_toArray, List.set_cons_succ, List.set_cons_zero]
            refine onlyH 11 (by kernel_rfl) ?_
            refine op_call rfl rfl Tryd.func46 (by kernel_rfl) rfl rfl #[.slice Al [f1, f2].length cl] (by (try simp only [List.map_toArray, List.map_cons, List.map_nil]); first | done | rfl) ?_
            refine (Join_told Al cl [f1, f2] _ (Kd.R_reads' OL.out).2.2 (by simp) GJ.out).mono ?_
            rintro e_ wq ⟨rfl, b_⟩
            refine ⟨_, rfl, blk_below HA.out b_, ?_⟩
            have H0n := Aside0.mk (blk_below H0.out b_)
            have HAn := Aside0.mk (blk_below HA.out b_)
            have HBn := Aside0.mk (below_then HB.out (blk_lt' H0 HB) b_)
            clear b_
            clear H0 HA HB
            have H0 := H0n
            have HA := HAn
            have HB := HBn
            clear H0n HAn HBn
            obtain ⟨wm, rfl⟩ : ∃ x, x = wq := ⟨_, rfl⟩
            simp only [List.getElem_toArray, List.getElem_cons_succ, List.getElem_cons_zero, Act.put, List.setIfInBounds_toArray, List.set_cons_succ, List.set_cons_zero]
            refine wpAnyH_take (i := 12) (v := .string y3) rfl (by kernel_rfl) (by kernel_rfl) (by kernel_rfl) (fun _ _ _ h => h) (.inl ⟨rfl, fun w_ hS_ => ?_⟩) HA.out ?_
            · (rw [Y3.out]; exact ch_cat 9 (.tmp 70) (.tmp 76) rfl y2 (joinS [f1, f2]) rfl rfl (by have := ZY2.out; have := ZJ.out; omega))
            simp only [List.getElem_toArray, List.getElem_cons_succ, List.getElem_cons_zero, Act.put, List.setIfInBounds_toArray, List.set_cons_succ, List.set_cons_zero]
            refine wpAnyH_take (i := 13) (v := .string y4) rfl (by kernel_rfl) (by kernel_rfl) (by kernel_rfl) (fun _ _ _ h => h) (.inl ⟨rfl, fun w_ hS_ => ?_⟩) HA.out ?_
            · (rw [Y4.out]; exact ch_cat 9 (.tmp 65) (.tmp 77) rfl s y3 rfl rfl (by have := ZS.out; have := ZY3.out; omega))
            simp only [List.getElem_toArray, List.getElem_cons_succ, List.getElem_cons_zero, Act.put, List.setIfInBounds_toArray, List.set_cons_succ, List.set_cons_zero]
            refine wpAnyH_take (i := 14) (v := .string y4) rfl (by kernel_rfl) (by kernel_rfl) (by kernel_rfl) (fun _ _ _ h => h) (.inl ⟨rfl, fun w_ hS_ => ?_⟩) HA.out ?_
            · unfold execOp
              go_simp
              (try rfl)
            simp only [List.getElem_toArray, List.getElem_cons_succ, List.getElem_cons_zero, Act.put, List.setIfInBounds_toArray, List.set_cons_succ, List.set_cons_zero]
            refine wpAnyH_done (by kernel_rfl) ?_ _
            go_wp2
            cases gk with
            | zero => exact absurd CI.out (by have := hki.out; omega)
            | succ gk =>
              go_roundg gk
              case measure => omega
              case rel => exact ⟨i + 1, _, rfl, by first | rfl | rw [hw_], ⟨by have := hki.out; omega⟩, YE, H0, HB⟩
        case neg =>
          have ci0 : decide ((i : Int) < (l13.length : Int)) = false := decide_eq_false (by omega)
          have ci1 : decide (i < l13.length) = false := decide_eq_false ci
          have e_ : s = t5 := by (rw [HS.out, T5.out, List.take_of_length_le (by omega)])
          subst e_
          clear ci hki
          obtain ⟨q, Q1⟩ : ∃ q, Aside0 ((!decide (us = List.replicate 10 0)) = q) := ⟨_, ⟨rfl⟩⟩
          go_upto_if 83 with (first | ((with_reducible refine gate_dst (N := 81) rfl ?_); refine wpList_ld rfl 34 (.tmp 80) rfl s0 14 10 rfl (nums .i64 us).toArray Tryd.underlying34 rfl (by kernel_rfl) H0.out (by rw [KSZ.out]; decide) KUS.out ?_) | ((with_reducible refine gate_dst (N := 83) rfl ?_); refine ex_neqw rfl (.tmp 81) (.tmp 82) 34 rfl eqw34 (by decide) (by kernel_rfl) us (List.replicate 10 0) rfl rfl N2.out (by simp) 83 rfl q Q1 ?_))
          cases q
          case false =>
            have e_ : t6 = s := by (have hq := Q1.out; rw [T6.out, tellI, if_pos (by simpa using hq)])
            go_wp2
            go_ret
            exact ⟨by (rw [e_]; try rfl), HB.out⟩
          case true =>
            have e_ : Aside0 (t6 = s ++ (kUse ++ joinS us)) := ⟨by (have hq := Q1.out; rw [T6.out, tellI, if_neg (by simpa using hq)])⟩
            go_wp2_with (first | ((with_reducible refine gate_dst (N := 85) rfl ?_); refine wpList_ld rfl 34 (.tmp 84) rfl s0 14 10 rfl (nums .i64 us).toArray Tryd.underlying34 rfl (by kernel_rfl) H0.out (by rw [KSZ.out]; decide) KUS.out ?_) | ((with_reducible refine gate_dst (N := 7) rfl ?_); refine ex_alloc rfl 7 rfl 34 rfl (.agg (nums .i64 (List.replicate 10 0)).toArray) (nums .i64 (List.replicate 10 0)).toArray Tryd.zeroValue34 (by rfl) ?_; intro sa wq SA SAq b_ g_; have HA := Aside0.mk g_; have S0A : Aside0 (s0 < sa) := ⟨by rw [← SA.out]; exact blk_lt H0.out⟩; clear g_ SAq SA; have H0n := Aside0.mk (blk_below H0.out b_); have HBn := Aside0.mk (below_then HB.out (blk_lt' H0 HB) b_); clear b_; clear H0 HB; have H0 := H0n; have HB := HBn; clear H0n HBn; obtain ⟨wm, rfl⟩ : ∃ x, x = wq := ⟨_, rfl⟩) | ((with_reducible refine gate_store (t := 34) (p := 7) (v := .tmp 85) rfl ?_); refine hx_store rfl rfl 34 (.tmp 7) (.tmp 85) rfl sa 10 rfl (nums .i64 us).toArray rfl (by kernel_rfl) (by simp [nums, N2.out]) (nums_one _ _) HA.out (by simp [nums]) ?_; intro wq t_ g_; have HAn := Aside0.mk g_; have H0n := Aside0.mk (t_.keep (show s0 ≠ sa by have := S0A.out; omega) H0.out); have HBn := Aside0.mk (t_.below HB.out (by have := S0A.out; omega)); clear t_ g_; clear HA H0 HB; have HA := HAn; have H0 := H0n; have HB := HBn; clear HAn H0n HBn; obtain ⟨wm, rfl⟩ : ∃ x, x = wq := ⟨_, rfl⟩) | ((with_reducible refine gate_dst (N := 88) rfl ?_); refine wpList_ld1 rfl 3 (.tmp 87) rfl sa 0 rfl (.int .i64 (us.getD 0 0)) Tryd.underlying3 rfl HA.out (by simp [nums, List.getElem?_eq_getElem (show 0 < us.length by rw [N2.out]; decide)]) ?_) | ((with_reducible refine gate_dst (N := 90) rfl ?_); refine wpList_ld1 rfl 3 (.tmp 89) rfl sa 1 rfl (.int .i64 (us.getD 1 0)) Tryd.underlying3 rfl HA.out (by simp [nums, List.getElem?_eq_getElem (show 1 < us.length by rw [N2.out]; decide)]) ?_) | ((with_reducible refine gate_dst (N := 92) rfl ?_); refine wpList_ld1 rfl 3 (.tmp 91) rfl sa 2 rfl (.int .i64 (us.getD 2 0)) Tryd.underlying3 rfl HA.out (by simp [nums, List.getElem?_eq_getElem (show 2 < us.length by rw [N2.out]; decide)]) ?_) | ((with_reducible refine gate_dst (N := 94) rfl ?_); refine wpList_ld1 rfl 3 (.tmp 93) rfl sa 3 rfl (.int .i64 (us.getD 3 0)) Tryd.underlying3 rfl HA.out (by simp [nums, List.getElem?_eq_getElem (show 3 < us.length by rw [N2.out]; decide)]) ?_) | ((with_reducible refine gate_dst (N := 96) rfl ?_); refine wpList_ld1 rfl 3 (.tmp 95) rfl sa 4 rfl (.int .i64 (us.getD 4 0)) Tryd.underlying3 rfl HA.out (by simp [nums, List.getElem?_eq_getElem (show 4 < us.length by rw [N2.out]; decide)]) ?_) | ((with_reducible refine gate_dst (N := 98) rfl ?_); refine wpList_ld1 rfl 3 (.tmp 97) rfl sa 5 rfl (.int .i64 (us.getD 5 0)) Tryd.underlying3 rfl HA.out (by simp [nums, List.getElem?_eq_getElem (show 5 < us.length by rw [N2.out]; decide)]) ?_) | ((with_reducible refine gate_dst (N := 100) rfl ?_); refine wpList_ld1 rfl 3 (.tmp 99) rfl sa 6 rfl (.int .i64 (us.getD 6 0)) Tryd.underlying3 rfl HA.out (by simp [nums, List.getElem?_eq_getElem (show 6 < us.length by rw [N2.out]; decide)]) ?_) | ((with_reducible refine gate_dst (N := 102) rfl ?_); refine wpList_ld1 rfl 3 (.tmp 101) rfl sa 7 rfl (.int .i64 (us.getD 7 0)) Tryd.underlying3 rfl HA.out (by simp [nums, List.getElem?_eq_getElem (show 7 < us.length by rw [N2.out]; decide)]) ?_) | ((with_reducible refine gate_dst (N := 104) rfl ?_); refine wpList_ld1 rfl 3 (.tmp 103) rfl sa 8 rfl (.int .i64 (us.getD 8 0)) Tryd.underlying3 rfl HA.out (by simp [nums, List.getElem?_eq_getElem (show 8 < us.length by rw [N2.out]; decide)]) ?_) | ((with_reducible refine gate_dst (N := 106) rfl ?_); refine wpList_ld1 rfl 3 (.tmp 105) rfl sa 9 rfl (.int .i64 (us.getD 9 0)) Tryd.underlying3 rfl HA.out (by simp [nums, List.getElem?_eq_getElem (show 9 < us.length by rw [N2.out]; decide)]) ?_) | ((with_reducible refine gate_dst (N := 107) rfl ?_); refine Kd.R_lit (Kd.int .i64) (w0 := wm) wm.heap.size 3 ?hg (N := 107) ?hd (xs := us) (inner := nums .i64 us) (ok := fun _ => True) (okp := fun _ => True) ?hr ?hp (fun _ hk => hk) trivial (Below.refl _ _) (Nat.le_refl _) (by rw [N2.out]; decide) ?_; (case hd => rfl); (case hg => rfl); (case hr => rw [ten_lit N2.out]; first | (go_simp; done) | (go_simp; rfl)); (case hp => exact reps_ints _); intro vl wq ol_ b_ hg_ hnew_; clear hg_ hnew_; obtain ⟨Al, cl, rfl⟩ := Kd.R_slice ol_; have OL := Aside0.mk ol_; clear ol_; have H0n := Aside0.mk (blk_below H0.out b_); have HBn := Aside0.mk (below_then HB.out (blk_lt' H0 HB) b_); clear b_; clear H0 HB; have H0 := H0n; have HB := HBn; clear H0n HBn; obtain ⟨wm, rfl⟩ : ∃ x, x = wq := ⟨_, rfl⟩) | ((with_reducible refine gate_dst (N := 108) rfl ?_); refine goesL_ (some 108) rfl rfl Tryd.func46 (by kernel_rfl) rfl #[.slice Al us.length cl] rfl (by (try simp only [List.map_toArray, List.map_cons, List.map_nil]); first | done | rfl) ?_; refine (Join_told Al cl us _ (Kd.R_reads' OL.out).2.2 (by rw [N2.out]; decide) RU.out).mono ?_; rintro e_ wq ⟨rfl, b_⟩; refine ⟨_, rfl, ?_⟩; have H0n := Aside0.mk (blk_below H0.out b_); have HBn := Aside0.mk (below_then HB.out (blk_lt' H0 HB) b_); clear b_; clear H0 HB; have H0 := H0n; have HB := HBn; clear H0n HBn; obtain ⟨wm, rfl⟩ : ∃ x, x = wq := ⟨_, rfl⟩) | ((with_reducible refine gate_dst (N := 109) rfl ?_); refine ex_cat rfl 9 (_) (.tmp 108) rfl (kUse) ((joinS us)) rfl rfl (by have hj_ := joinS_size us RU.out; rw [N2.out] at hj_; show 7 + _ ≤ _; omega) ?_; intro x1 hx1) | ((with_reducible refine gate_dst (N := 110) rfl ?_); refine ex_cat rfl 9 (.tmp 86) (.tmp 109) rfl (s) (x1) rfl rfl (by have hj_ := joinS_size us RU.out; rw [N2.out] at hj_; have := Z5.out; have hh : x1.size = 7 + (joinS us).size := (by rw [hx1.out, ByteArray.size_append]; rfl); omega) ?_; intro x2 hx2))
            go_ret
            exact ⟨by (rw [e_.out, ← hx1.out, ← hx2.out]; try rfl), HB.out⟩
end Go.Proofs.YtknlpjoidjgciaaDoor.PFnExactTellAns
