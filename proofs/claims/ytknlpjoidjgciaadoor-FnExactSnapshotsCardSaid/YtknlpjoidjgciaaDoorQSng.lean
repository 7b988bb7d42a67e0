/- Snapshots: the law's walk. -/
import Derived.Test.YtknlpjoidjgciaaDoorQSnf
import Derived.Test.YtknlpjoidjgciaaDoorQSnd
import Derived.Test.YtknlpjoidjgciaaDoorQPFnExactSnapshotsx1
namespace Go.Proofs.YtknlpjoidjgciaaDoor.PFnExactSnapshots
open Go Go.RowKit Go.Proofs.YtknlpjoidjgciaaDoorW.PrintWords Go.Proofs.YtknlpjoidjgciaaDoorW.PrintLast Go.Proofs.YtknlpjoidjgciaaDoorW.PrintMore Go.Proofs.YtknlpjoidjgciaaDoorW.PrintHand Go.Proofs.YtknlpjoidjgciaaDoorW.PrintHx Go.Proofs.YtknlpjoidjgciaaDoorW.PrintLe Go.Proofs.YtknlpjoidjgciaaDoorW.PrintIno Go.Proofs.YtknlpjoidjgciaaDoorW.PrintDec Go.Proofs.YtknlpjoidjgciaaDoorW.PrintFsi Go.Proofs.YtknlpjoidjgciaaDoorW.PrintFsb Go.Proofs.YtknlpjoidjgciaaDoorW.PrintFsd Go.Proofs.YtknlpjoidjgciaaDoorW.PrintCrc Go.Proofs.YtknlpjoidjgciaaDoorW.PrintGrow Go.Proofs.YtknlpjoidjgciaaDoorW.PrintSnp Go.Proofs.YtknlpjoidjgciaaDoorW.PrintSnd Go.Proofs.YtknlpjoidjgciaaDoorW.PrintRws Go.Proofs.YtknlpjoidjgciaaDoorW
open Go.Proofs.YtknlpjoidjgciaaDoorW.PrintChs Go.Proofs.YtknlpjoidjgciaaDoorW.PrintTab2
attribute [local go_sem] max2_int min2_int max_two min_two max_three min_three max_four min_four
set_option linter.unusedVariables false
set_option linter.unusedSimpArgs false
theorem toByteS_l0 (x0 : List Int) (hn : x0.length < 9223372036854775807) : ∀ (d i k : Nat) (x3 : List Int), i + d = x0.length → x3.length = x0.length → d < k → laws_toByteS.l0 k x0 x3 (i : Int) = some (x3.take i ++ x0.drop i)
  | 0, i, k, x3, h1, h2, h3 => by
    obtain ⟨k, rfl⟩ := sucK h3
    simp only [laws_toByteS.l0]
    rw [if_neg (by omega), List.take_of_length_le (by omega), List.drop_eq_nil_of_le (by omega), List.append_nil]
  | d + 1, i, k, x3, h1, h2, h3 => by
    obtain ⟨k, rfl⟩ := sucK h3
    simp only [laws_toByteS.l0]
    rw [if_pos (by omega), if_pos (by omega), if_pos (by omega), w64n (by omega), toByteS_l0 x0 hn d (i + 1) k _ (by omega) (by simpa using h2) (by omega)]
    have hi : i < x0.length := by omega
    rw [Int.toNat_natCast, rd_some hi, List.take_succ_eq_append_getElem (by rw [List.length_set]; omega), List.getElem_set_self, List.take_set_of_le (Nat.le_refl i), List.append_assoc, List.drop_eq_getElem_cons hi]
    rfl
theorem toByteS_f (l : List Int) (k : Nat) (hn : l.length ≤ 1048576) (hk : l.length < k) : laws_toByteS.f k l = some l := by
  unfold laws_toByteS.f
  rw [if_pos (by omega), if_pos (by omega)]
  have h := toByteS_l0 l (by omega) l.length 0 k (List.replicate ((l.length : Int)).toNat 0) (by omega) (by simp) hk
  rw [List.take_zero, List.drop_zero, List.nil_append] at h
  exact h
theorem eqByteS_l0 (x0 x1 : List Int) (hn : x0.length < 9223372036854775807) (hl : x0.length = x1.length) : ∀ (d i k : Nat), i + d = x0.length → d < k → laws_eqByteS.l0 k x0 x1 (i : Int) = some (decide (x0.drop i = x1.drop i))
  | 0, i, k, h1, h3 => by
    obtain ⟨k, rfl⟩ := sucK h3
    simp only [laws_eqByteS.l0]
    rw [if_neg (by omega), List.drop_eq_nil_of_le (by omega), List.drop_eq_nil_of_le (by omega)]
    simp
  | d + 1, i, k, h1, h3 => by
    obtain ⟨k, rfl⟩ := sucK h3
    simp only [laws_eqByteS.l0]
    have hi : i < x0.length := by omega
    have hi1 : i < x1.length := by omega
    have hd0 := List.drop_eq_getElem_cons hi
    have hd1 := List.drop_eq_getElem_cons hi1
    rw [if_pos (by omega), if_pos (by omega), if_pos (by omega), w64n (by omega), eqByteS_l0 x0 x1 hn hl d (i + 1) k (by omega) (by omega), rd_some hi, rd_some hi1]
    by_cases h : x0[i] = x1[i]
    · rw [if_pos h]
      simp only [hd0, hd1, List.cons.injEq, h, true_and]
    · rw [if_neg h]
      simp only [hd0, hd1, List.cons.injEq, h, false_and, decide_false]
theorem eqByteS_f (a b : List Int) (k : Nat) (hn : a.length ≤ 1048576) (hk : a.length < k) : laws_eqByteS.f k a b = some (decide (a = b)) := by
  unfold laws_eqByteS.f
  by_cases h : a.length = b.length
  · rw [if_pos (by omega)]
    exact eqByteS_l0 a b (by omega) h a.length 0 k (by omega) hk
  · rw [if_neg (by omega)]
    have : a ≠ b := fun e => h (by rw [e])
    simp [this]
theorem markByteS_l0 (hn : ∀ x : Int, True) : ∀ (d i k : Nat) (x0 : List Int) (m : Nat), i + d = x0.length → d < k → m + d < 9223372036854775807 → i + d < 9223372036854775807 → laws_markByteS.l0 k x0 (m : Int) (i : Int) = some (((m + d : Nat) : Int), x0.take i ++ (List.range' m d).map (fun (q : Nat) => (q : Int) % 256))
  | 0, i, k, x0, m, h1, h3, h4, h5 => by
    obtain ⟨k, rfl⟩ := sucK h3
    simp only [laws_markByteS.l0]
    rw [if_neg (by omega), List.take_of_length_le (by omega)]
    simp
  | d + 1, i, k, x0, m, h1, h3, h4, h5 => by
    obtain ⟨k, rfl⟩ := sucK h3
    simp only [laws_markByteS.l0]
    rw [if_pos (by omega), if_pos (by omega), w64n (by omega), w64n (by omega), markByteS_l0 hn d (i + 1) k _ (m + 1) (by simpa using (by omega)) (by omega) (by omega) (by omega)]
    rw [show ((i : Int)).toNat = i from by omega]
    congr 2
    · omega
    · rw [List.range'_succ, List.map_cons, List.take_succ_eq_append_getElem (by simpa using (by omega)), List.getElem_set_self, List.take_set_of_le (Nat.le_refl i), List.append_assoc]
      rfl
theorem markByteS_f (l : List Int) (m k : Nat) (hn : l.length ≤ 1048576) (hm : m ≤ 1099511627776) (hk : l.length < k) : laws_markByteS.f k l (m : Int) = some (((m + l.length : Nat) : Int), (List.range' m l.length).map (fun (q : Nat) => (q : Int) % 256)) := by
  unfold laws_markByteS.f
  have h := markByteS_l0 (fun _ => trivial) l.length 0 k l m (by omega) hk (by omega) (by omega)
  rw [List.take_zero, List.nil_append] at h
  exact h
theorem reads_n {w : World} {A : Option Addr} {n : Nat} {LL : List Sn} (h : Kd.C (cellsK 19) w A n (LL.map Sn.c)) : Kd.C (cellsK 19) w A LL.length (LL.map Sn.c) := by
  have e : n = LL.length := by rw [← List.length_map (f := Sn.c)]; exact h.1.symm
  rw [← e]
  exact h
theorem reads_m {w : World} {A : Option Addr} {n m : Nat} (h : Kd.C (cellsK 19) w A n (marksC m)) : Kd.C (cellsK 19) w A m (marksC m) := by
  have e : n = m := by rw [← marksC_length m]; exact h.1.symm
  rw [← e]
  rw [← e] at h
  exact h
theorem snapsF_len (l : List Int) : (snapsF l).1.length ≤ 31 := by
  unfold snapsF
  split
  · generalize fsS (chooseF (decA l) l).1 = PP
    cases h : snN l PP 31 with
    | none =>
      have e : snF l PP = ([], 21) := by unfold snF; rw [h]
      rw [e]
      exact Nat.zero_le _
    | some o =>
      rw [snF_all rfl h]
      exact snN_le h
  · exact Nat.zero_le _
set_option maxHeartbeats 8000000 in
set_option maxRecDepth 100000 in
theorem law_told (A0 : Option Addr) (c0 : Nat) (l0 : List Int) (w : World) (hm : Kd.C (Kd.int .u8) w (some ⟨1, 0, none⟩) 8 magicF) (hv : Kd.C (Kd.int .u8) w (some ⟨2, 0, none⟩) 8 magicS) (hgE : w.cell? ⟨0, 0, none⟩ = some (.iface 237 (.agg #[.pointer (some ⟨9, 93, none⟩)]))) (hr0 : Kd.C (Kd.int .u8) w A0 l0.length l0) (hc0 : l0.length ≤ c0) (hby : Byt l0) :
    Calls Tryd.prog 7 #[.slice A0 l0.length c0] w fun e w' => e = .returned (.bool true) ∧ Below w.heap.size w w' := by
  have HR0 := Aside0.mk hr0
  have HC0 := Aside0.mk hc0
  have HB := Aside0.mk (Below.refl w.heap.size w)
  by_cases hl : l0.length ≤ 1048576
  case neg =>
    have d0 : decide ((l0.length : Int) > 1048576) = true := decide_eq_true (by omega)
    have d1 : decide (1048576 < (l0.length : Int)) = true := decide_eq_true (by omega)
    have d2 : decide (1048576 < l0.length) = true := decide_eq_true (by omega)
    clear hl hr0 hc0 hm hv hgE hby
    go_enter Tryd.func7, Tryd.ntmps7
    go_wp2
    go_ret
    exact ⟨rfl, HB.out⟩
  have d0 : decide ((l0.length : Int) > 1048576) = false := decide_eq_false (by omega)
  have d1 : decide (1048576 < (l0.length : Int)) = false := decide_eq_false (by omega)
  have d2 : decide (1048576 < l0.length) = false := decide_eq_false (by omega)
  obtain ⟨LL, hLL⟩ : ∃ L, L = (snapsF l0).1 := ⟨_, rfl⟩
  obtain ⟨kc, hkc⟩ : ∃ k, k = (snapsF l0).2 := ⟨_, rfl⟩
  have LLN : Aside0 (LL.length ≤ 31) := ⟨by rw [hLL]; exact snapsF_len l0⟩
  have TS : Aside0 (∀ w' A c, Kd.C (Kd.int .u8) w' A l0.length l0 → l0.length ≤ c → Calls Tryd.prog 37 #[.slice A l0.length c] w' fun e w'' => ∃ A' c', e = .returned (.tuple #[.slice A' LL.length c', .int .i64 kc]) ∧ LL.length ≤ c' ∧ Kd.C (cellsK 19) w'' A' LL.length (LL.map Sn.c) ∧ Below w'.heap.size w' w'') := ⟨fun w' A c h1 h2 => by
      refine (specSnaps_told A c l0 w' h1 h2 hl hby).mono ?_
      rintro e w'' ⟨v, rfl, ho, b⟩
      rw [← hLL] at ho
      rw [← hkc]
      obtain ⟨A', c', rfl, hle, hC⟩ := Kd.R_reads ho
      rw [List.length_map] at hle hC ⊢
      exact ⟨A', c', rfl, hle, hC, b⟩⟩
  have TI : Aside0 (∀ w' A c, Below w.heap.size w w' → Kd.C (Kd.int .u8) w' A l0.length l0 → l0.length ≤ c → Calls Tryd.prog 38 #[.slice A l0.length c] w' fun e w'' => ∃ A' c', e = .returned (.tuple #[.slice A' LL.length c', .int .i64 kc]) ∧ Kd.R (cellsK 19) 131 w'' w'.heap.size (fun _ => True) (.slice A' LL.length c') (LL.map Sn.c) ∧ Below w'.heap.size w' w'') := ⟨fun w' A c hb h1 h2 => by
      refine (implSnaps_told A c l0 w' (Kd.C_below hm hb) (Kd.C_below hv hb) (ea_kept hb hgE (ea_lt hgE)) h1 h2 hl hby).mono ?_
      rintro e w'' ⟨v, rfl, ho, b⟩
      rw [← hLL] at ho
      rw [← hkc]
      obtain ⟨A', c', rfl⟩ := Kd.R_slice ho
      rw [List.length_map] at ho ⊢
      exact ⟨A', c', rfl, ho, b⟩⟩
  have FT := Aside0.mk (toByteS_f l0 (l0.length + 1) hl (by omega))
  have FE := Aside0.mk ((eqByteS_f l0 l0 (l0.length + 1) hl (by omega)).trans (by rw [decide_eq_true rfl]))
  have FM := Aside0.mk (markByteS_f l0 1 (l0.length + 1) hl (by decide) (by omega))
  obtain ⟨mk, hmk⟩ : ∃ m, m = (List.range' 1 l0.length).map (fun (q : Nat) => (q : Int) % 256) := ⟨_, rfl⟩
  rw [← hmk] at FM
  obtain ⟨k1, hk1⟩ : ∃ k, k = 1 + l0.length := ⟨_, rfl⟩
  rw [← hk1] at FM
  have dk : decide ((k1 : Int) < 0) = false := decide_eq_false (by omega)
  have dk2 : decide (k1 < 0) = false := decide_eq_false (by omega)
  obtain ⟨k2, hk2⟩ : ∃ k, k = 1 + 19 * LL.length := ⟨_, rfl⟩
  have HK2 := Aside0.mk hk2
  have dm : decide ((k2 : Int) < 0) = false := decide_eq_false (by omega)
  have dm2 : decide (k2 < 0) = false := decide_eq_false (by omega)
  have nq : ∀ z : Int, (z != z) = false := fun z => bne_self_eq_false' z
  have HLM := Aside0.mk hl
  clear hl hr0 hc0 hm hv hgE hby hLL hkc hmk hk1 hk2
  go_enter Tryd.func7, Tryd.ntmps7
  go_wp2_with (first | ((with_reducible refine gate_dst (N := 18) rfl ?_); refine goesL_ (some 18) rfl rfl Tryd.func20 (by kernel_rfl) rfl #[.slice A0 l0.length c0] rfl (by (try simp only [List.map_toArray, List.map_cons, List.map_nil]); first | done | rfl) ?_; refine (laws_toByteS.calls (l0.length + 1) A0 c0 l0 l0 _ (Kd.C_below HR0.out HB.out) HC0.out FT.out).mono ?_; rintro e_ wq ⟨v_, rfl, o_, b_⟩; obtain ⟨A1, cA1, rfl, lA1_, rA1_⟩ := Kd.R_reads o_; have LX1 := Aside0.mk lA1_; have X1 := Aside0.mk rA1_; clear o_ lA1_ rA1_; refine ⟨_, rfl, ?_⟩; have HBn := Aside0.mk (below_then HB.out HB.out.size b_); clear b_; clear HB; have HB := HBn; clear HBn; obtain ⟨wm, rfl⟩ : ∃ x, x = wq := ⟨_, rfl⟩) | ((with_reducible refine gate_dst (N := 19) rfl ?_); refine goesL_ (some 19) rfl rfl Tryd.func37 (by kernel_rfl) rfl #[.slice A1 l0.length cA1] rfl (by (try simp only [List.map_toArray, List.map_cons, List.map_nil]); first | done | rfl) ?_; refine (TS.out _ A1 cA1 X1.out LX1.out).mono ?_; rintro e_ wq ⟨A3, c3, rfl, l3_, r3_, b_⟩; refine ⟨_, rfl, ?_⟩; have S3 := Aside0.mk r3_; have L3 := Aside0.mk l3_; clear r3_ l3_ X1; have HBn := Aside0.mk (below_then HB.out HB.out.size b_); clear b_; clear HB; have HB := HBn; clear HBn; obtain ⟨wm, rfl⟩ : ∃ x, x = wq := ⟨_, rfl⟩; obtain ⟨wA, hwA⟩ : ∃ x, x = wm := ⟨_, rfl⟩; have BA : Aside0 (Below wA.heap.size wA wm) := ⟨by rw [hwA]; exact Below.refl _ _⟩; have HA : Aside0 (Below w.heap.size w wA) := ⟨by rw [hwA]; exact HB.out⟩; rw [← hwA] at S3; clear hwA HB) | ((with_reducible refine gate_dst (N := 23) rfl ?_); refine goesL_ (some 23) rfl rfl Tryd.func20 (by kernel_rfl) rfl #[.slice A0 l0.length c0] rfl (by (try simp only [List.map_toArray, List.map_cons, List.map_nil]); first | done | rfl) ?_; refine (laws_toByteS.calls (l0.length + 1) A0 c0 l0 l0 _ (Kd.C_below HR0.out (below_then HA.out HA.out.size BA.out)) HC0.out FT.out).mono ?_; rintro e_ wq ⟨v_, rfl, o_, b_⟩; obtain ⟨A5, cA5, rfl, l_, r_⟩ := Kd.R_reads o_; refine ⟨_, rfl, ?_⟩; have LX5 := Aside0.mk l_; have X5 := Aside0.mk (Kd.R_lower o_ BA.out.size); clear o_ l_ r_; have BAn := Aside0.mk (below_then BA.out BA.out.size b_); clear b_; clear BA; have BA := BAn; clear BAn; obtain ⟨wm, rfl⟩ : ∃ x, x = wq := ⟨_, rfl⟩) | ((with_reducible refine gate_dst (N := 26) rfl ?_); refine goesL_ (some 26) rfl rfl Tryd.func38 (by kernel_rfl) rfl #[.slice A5 l0.length cA5] rfl (by (try simp only [List.map_toArray, List.map_cons, List.map_nil]); first | done | rfl) ?_; refine (TI.out _ A5 cA5 (below_then HA.out HA.out.size BA.out) (Kd.R_reads' X5.out).2.2 LX5.out).mono ?_; rintro e_ wq ⟨A6, cA6, rfl, o_, b_⟩; refine ⟨_, rfl, ?_⟩; have G6 := Aside0.mk o_; clear o_; obtain ⟨sB, hsB⟩ : ∃ s, wm.heap.size = s := ⟨_, rfl⟩; rw [hsB] at G6; have X5m := Aside0.mk (Kd.R_mono (ok' := fun k_ => k_ < sB) (Kd.R_bound X5.out) (fun k_ hk_ => by rw [← hsB]; exact hk_.2.2.1)); clear X5; have X5 := X5m; clear X5m; have SBA : Aside0 (wA.heap.size ≤ sB) := ⟨by rw [← hsB]; exact BA.out.size⟩; have G6m := Aside0.mk (Kd.R_lower (Kd.R_mono (ok' := fun k_ => sB ≤ k_) (Kd.R_bound G6.out) (fun k_ hk_ => hk_.2.1)) SBA.out); clear G6 hsB; have G6 := G6m; clear G6m; have X5n := Aside0.mk (Kd.R_below X5.out b_); have BAn := Aside0.mk (below_then BA.out BA.out.size b_); clear b_; clear X5 BA; have X5 := X5n; have BA := BAn; clear X5n BAn; obtain ⟨wm, rfl⟩ : ∃ x, x = wq := ⟨_, rfl⟩) | ((with_reducible refine gate_dst (N := 31) rfl ?_); refine goesL_ (some 31) rfl rfl Tryd.func39 (by kernel_rfl) rfl #[.slice A6 LL.length cA6, .slice A3 LL.length c3] rfl (by (try simp only [List.map_toArray, List.map_cons, List.map_nil]); first | done | rfl) ?_; refine (eqSnapS_told A6 cA6 A3 c3 LL _ (reads_n (Kd.R_reads' G6.out).2.2) (Kd.C_below S3.out BA.out)).mono ?_; rintro e_ wq ⟨rfl, b_⟩; refine ⟨_, rfl, ?_⟩; have X5n := Aside0.mk (Kd.R_below X5.out b_); have G6n := Aside0.mk (Kd.R_below G6.out b_); have BAn := Aside0.mk (below_then BA.out BA.out.size b_); clear b_; clear X5 G6 BA; have X5 := X5n; have G6 := G6n; have BA := BAn; clear X5n G6n BAn; obtain ⟨wm, rfl⟩ : ∃ x, x = wq := ⟨_, rfl⟩) | ((with_reducible refine gate_dst (N := 40) rfl ?_); refine goesL_ (some 40) rfl rfl Tryd.func20 (by kernel_rfl) rfl #[.slice A0 l0.length c0] rfl (by (try simp only [List.map_toArray, List.map_cons, List.map_nil]); first | done | rfl) ?_; refine (laws_toByteS.calls (l0.length + 1) A0 c0 l0 l0 _ (Kd.C_below HR0.out (below_then HA.out HA.out.size BA.out)) HC0.out FT.out).mono ?_; rintro e_ wq ⟨v_, rfl, o_, b_⟩; obtain ⟨A7, cA7, rfl, l_, r_⟩ := Kd.R_reads o_; refine ⟨_, rfl, ?_⟩; have LX7 := Aside0.mk l_; have X7 := Aside0.mk r_; clear o_ l_ r_; have X5n := Aside0.mk (Kd.R_below X5.out b_); have G6n := Aside0.mk (Kd.R_below G6.out b_); have BAn := Aside0.mk (below_then BA.out BA.out.size b_); clear b_; clear X5 G6 BA; have X5 := X5n; have G6 := G6n; have BA := BAn; clear X5n G6n BAn; obtain ⟨wm, rfl⟩ : ∃ x, x = wq := ⟨_, rfl⟩) | ((with_reducible refine gate_dst (N := 41) rfl ?_); refine goesL_ (some 41) rfl rfl Tryd.func24 (by kernel_rfl) rfl #[.slice A5 l0.length cA5, .slice A7 l0.length cA7] rfl (by (try simp only [List.map_toArray, List.map_cons, List.map_nil]); first | done | rfl) ?_; refine (laws_eqByteS.calls (l0.length + 1) A5 cA5 l0 A7 cA7 l0 true _ (Kd.R_reads' X5.out).2.2 LX5.out X7.out LX7.out FE.out).mono ?_; rintro e_ wq ⟨rfl, d_⟩; have b_ := kept_drawn d_; clear d_ X7; refine ⟨_, rfl, ?_⟩; have X5n := Aside0.mk (Kd.R_below X5.out b_); have G6n := Aside0.mk (Kd.R_below G6.out b_); have BAn := Aside0.mk (below_then BA.out BA.out.size b_); clear b_; clear X5 G6 BA; have X5 := X5n; have G6 := G6n; have BA := BAn; clear X5n G6n BAn; obtain ⟨wm, rfl⟩ : ∃ x, x = wq := ⟨_, rfl⟩) | ((with_reducible refine gate_dst (N := 45) rfl ?_); refine goesL_ (some 45) rfl rfl Tryd.func26 (by kernel_rfl) rfl #[.slice A5 l0.length cA5, .int .i64 1] rfl (by (try simp only [List.map_toArray, List.map_cons, List.map_nil]); first | done | rfl) ?_; refine (laws_markByteS.calls (l0.length + 1) (fun k_ => k_ < sB) (.slice A5 l0.length cA5) l0 1 (k1 : Int) mk wA _ BA.out X5.out FM.out).mono ?_; rintro e_ wq ⟨rfl, _, b_, kp_⟩; refine ⟨_, rfl, ?_⟩; have G6n := Aside0.mk (Kd.R_kept G6.out kp_ (fun k_ h1_ h2_ => by omega)); have BAn := Aside0.mk b_; clear b_ kp_ G6 BA X5; have G6 := G6n; have BA := BAn; clear G6n BAn; obtain ⟨wm, rfl⟩ : ∃ x, x = wq := ⟨_, rfl⟩) | ((with_reducible refine gate_dst (N := 51) rfl ?_); refine Go.Proofs.YtknlpjoidjgciaaDoorW.PrintTab2.ungd (by rfl) ?_; refine goesL_ (some 51) rfl rfl Tryd.func39 (by kernel_rfl) rfl #[.slice A6 LL.length cA6, .slice A3 LL.length c3] rfl (by (try simp only [List.map_toArray, List.map_cons, List.map_nil]); first | done | rfl) ?_; refine (eqSnapS_told A6 cA6 A3 c3 LL _ (reads_n (Kd.R_reads' G6.out).2.2) (Kd.C_below S3.out BA.out)).mono ?_; rintro e_ wq ⟨rfl, b_⟩; refine ⟨_, rfl, ?_⟩; have G6n := Aside0.mk (Kd.R_below G6.out b_); have BAn := Aside0.mk (below_then BA.out BA.out.size b_); clear b_; clear G6 BA; have G6 := G6n; have BA := BAn; clear G6n BAn; obtain ⟨wm, rfl⟩ : ∃ x, x = wq := ⟨_, rfl⟩) | ((with_reducible refine gate_dst (N := 61) rfl ?_); refine goesL_ (some 61) rfl rfl Tryd.func40 (by kernel_rfl) rfl #[.slice A6 LL.length cA6, .int .i64 1] rfl (by (try simp only [List.map_toArray, List.map_cons, List.map_nil]); first | done | rfl) ?_; refine (markSnapS_told (fun k_ => sB ≤ k_) (.slice A6 LL.length cA6) (LL.map Sn.c) wA _ (by rw [List.length_map]; have := LLN.out; omega) BA.out G6.out).mono ?_; rintro e_ wq ⟨rfl, o_, b_, kp_⟩; rw [List.length_map] at o_; rw [List.length_map, ← HK2.out]; refine ⟨_, rfl, ?_⟩; have M6 := Aside0.mk o_; have BAn := Aside0.mk b_; clear o_ b_ kp_ G6 BA; have BA := BAn; clear BAn; obtain ⟨wm, rfl⟩ : ∃ x, x = wq := ⟨_, rfl⟩) | ((with_reducible refine gate_dst (N := 64) rfl ?_); refine goesL_ (some 64) rfl rfl Tryd.func41 (by kernel_rfl) rfl #[.slice A6 LL.length cA6, .int .i64 1] rfl (by (try simp only [List.map_toArray, List.map_cons, List.map_nil]); first | done | rfl) ?_; refine (heldSnapS_told A6 cA6 LL.length _ (by have := LLN.out; omega) (reads_m (Kd.R_reads' M6.out).2.2)).mono ?_; rintro e_ wq ⟨rfl, b_⟩; rw [← HK2.out]; refine ⟨_, rfl, ?_⟩; have M6n := Aside0.mk (Kd.R_below M6.out b_); have BAn := Aside0.mk (below_then BA.out BA.out.size b_); clear b_; clear M6 BA; have M6 := M6n; have BA := BAn; clear M6n BAn; obtain ⟨wm, rfl⟩ : ∃ x, x = wq := ⟨_, rfl⟩) | ((with_reducible refine gate_dst (N := 72) rfl ?_); refine goesL_ (some 72) rfl rfl Tryd.func20 (by kernel_rfl) rfl #[.slice A0 l0.length c0] rfl (by (try simp only [List.map_toArray, List.map_cons, List.map_nil]); first | done | rfl) ?_; refine (laws_toByteS.calls (l0.length + 1) A0 c0 l0 l0 _ (Kd.C_below HR0.out (below_then HA.out HA.out.size BA.out)) HC0.out FT.out).mono ?_; rintro e_ wq ⟨v_, rfl, o_, b_⟩; obtain ⟨A8, cA8, rfl, l_, r_⟩ := Kd.R_reads o_; refine ⟨_, rfl, ?_⟩; have LX8 := Aside0.mk l_; have X8 := Aside0.mk r_; clear o_ l_ r_; have M6n := Aside0.mk (Kd.R_below M6.out b_); have BAn := Aside0.mk (below_then BA.out BA.out.size b_); clear b_; clear M6 BA; have M6 := M6n; have BA := BAn; clear M6n BAn; obtain ⟨wm, rfl⟩ : ∃ x, x = wq := ⟨_, rfl⟩) | ((with_reducible refine gate_dst (N := 73) rfl ?_); refine goesL_ (some 73) rfl rfl Tryd.func38 (by kernel_rfl) rfl #[.slice A8 l0.length cA8] rfl (by (try simp only [List.map_toArray, List.map_cons, List.map_nil]); first | done | rfl) ?_; refine (TI.out _ A8 cA8 (below_then HA.out HA.out.size BA.out) X8.out LX8.out).mono ?_; rintro e_ wq ⟨A9, cA9, rfl, o_, b_⟩; refine ⟨_, rfl, ?_⟩; have G9 := Aside0.mk o_; clear o_; clear X8; have M6n := Aside0.mk (Kd.R_below M6.out b_); have BAn := Aside0.mk (below_then BA.out BA.out.size b_); clear b_; clear M6 BA; have M6 := M6n; have BA := BAn; clear M6n BAn; obtain ⟨wm, rfl⟩ : ∃ x, x = wq := ⟨_, rfl⟩) | ((with_reducible refine gate_dst (N := 78) rfl ?_); refine goesL_ (some 78) rfl rfl Tryd.func39 (by kernel_rfl) rfl #[.slice A9 LL.length cA9, .slice A3 LL.length c3] rfl (by (try simp only [List.map_toArray, List.map_cons, List.map_nil]); first | done | rfl) ?_; refine (eqSnapS_told A9 cA9 A3 c3 LL _ (reads_n (Kd.R_reads' G9.out).2.2) (Kd.C_below S3.out BA.out)).mono ?_; rintro e_ wq ⟨rfl, b_⟩; refine ⟨_, rfl, ?_⟩; have M6n := Aside0.mk (Kd.R_below M6.out b_); have G9n := Aside0.mk (Kd.R_below G9.out b_); have BAn := Aside0.mk (below_then BA.out BA.out.size b_); clear b_; clear M6 G9 BA; have M6 := M6n; have G9 := G9n; have BA := BAn; clear M6n G9n BAn; obtain ⟨wm, rfl⟩ : ∃ x, x = wq := ⟨_, rfl⟩) | ((with_reducible refine gate_dst (N := 87) rfl ?_); refine goesL_ (some 87) rfl rfl Tryd.func41 (by kernel_rfl) rfl #[.slice A6 LL.length cA6, .int .i64 1] rfl (by (try simp only [List.map_toArray, List.map_cons, List.map_nil]); first | done | rfl) ?_; refine (heldSnapS_told A6 cA6 LL.length _ (by have := LLN.out; omega) (reads_m (Kd.R_reads' M6.out).2.2)).mono ?_; rintro e_ wq ⟨rfl, b_⟩; rw [← HK2.out]; refine ⟨_, rfl, ?_⟩; have M6n := Aside0.mk (Kd.R_below M6.out b_); have BAn := Aside0.mk (below_then BA.out BA.out.size b_); clear b_; clear M6 BA; have M6 := M6n; have BA := BAn; clear M6n BAn; obtain ⟨wm, rfl⟩ : ∃ x, x = wq := ⟨_, rfl⟩))
  go_ret
  exact ⟨rfl, (below_then HA.out HA.out.size BA.out)⟩
end Go.Proofs.YtknlpjoidjgciaaDoor.PFnExactSnapshots
