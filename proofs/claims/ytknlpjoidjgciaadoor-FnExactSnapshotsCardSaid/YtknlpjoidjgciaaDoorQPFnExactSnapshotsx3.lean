/- PFnExactSnapshotsx3: functions of the law, walked; written by a program of this session. No condition. -/
import Derived.Test.YtknlpjoidjgciaaDoorQPFnExactSnapshotsx0
import Derived.Test.YtknlpjoidjgciaaDoorQPFnExactSnapshotsx2
namespace Go.Proofs.YtknlpjoidjgciaaDoor.PFnExactSnapshots
open Go.RowKit Go.Proofs.YtknlpjoidjgciaaDoorW.PrintWords Go.Proofs.YtknlpjoidjgciaaDoorW.PrintLast Go.Proofs.YtknlpjoidjgciaaDoorW.PrintMore
attribute [local go_sem] max2_int min2_int max_two min_two max_three min_three max_four min_four
set_option linter.unusedVariables false
set_option linter.unusedSimpArgs false
def spec_Crc32.l0 : Nat → Int → List Int → Int → Int → Option (Int)
  | 0, _, _, _, _ => none
  | k + 1, x3, x6, x7, x8 => if x8 < x7 then (if 0 ≤ x8 then (if x8 < (x6.length : Int) then ((spec_l02Table.f k (Int.tmod (Go.bits .xor .u32 x3 ((rd x6 x8) % 4294967296)) 256)).bind fun t133 => (spec_Crc32.l0 k (Go.bits .xor .u32 ((Int.tdiv x3 256) % 4294967296) t133) x6 x7 (wrap64 (x8 + 1)))) else (none)) else (none)) else (some (Go.bits .xor .u32 x3 4294967295))
def spec_Crc32.f (k : Nat) (l0 : List Int) : Option (Int) := spec_Crc32.l0 k 4294967295 l0 (l0.length : Int) 0
theorem spec_Crc32.mono_l : ∀ k, (∀ y0 y1 y2 y3, LeO (spec_Crc32.l0 k y0 y1 y2 y3) (spec_Crc32.l0 (k + 1) y0 y1 y2 y3))
  | 0 => fun _ _ _ _ r h => by simp [spec_Crc32.l0] at h
  | k + 1 => by
    have ih0 := spec_Crc32.mono_l k
    · intro y0 y1 y2 y3
      unfold spec_Crc32.l0
      repeat' first
      | (with_reducible exact ih0 _ _ _ _)
      | (with_reducible exact spec_l02Table.mono _ _)
      | (with_reducible exact LeO.refl _)
      | (with_reducible exact LeO.none _)
      | (with_reducible refine LeO.ite ?_ ?_)
      | (with_reducible refine LeO.bind ?_ (fun _ => ?_))
      | exact ih0 _ _ _ _
      | exact spec_l02Table.mono _ _
      | exact LeO.none _
      | refine LeO.ite ?_ ?_
      | refine LeO.bind ?_ (fun _ => ?_)
theorem spec_Crc32.mono : ∀ a0 k, LeO (spec_Crc32.f k a0) (spec_Crc32.f (k + 1) a0) := by
  intro a0 k
  have ih0 := spec_Crc32.mono_l k
  unfold spec_Crc32.f
  repeat' first
      | (with_reducible exact ih0 _ _ _ _)
      | (with_reducible exact spec_l02Table.mono _ _)
      | (with_reducible exact LeO.refl _)
      | (with_reducible exact LeO.none _)
      | (with_reducible refine LeO.ite ?_ ?_)
      | (with_reducible refine LeO.bind ?_ (fun _ => ?_))
      | exact ih0 _ _ _ _
      | exact spec_l02Table.mono _ _
      | exact LeO.none _
      | refine LeO.ite ?_ ?_
      | refine LeO.bind ?_ (fun _ => ?_)
set_option maxHeartbeats 8000000 in
set_option maxRecDepth 100000 in
theorem spec_Crc32.calls (k : Nat) (A0 : Option Addr) (c0 : Nat) (l0 : List Int) (r : Int) (w : World) (hr0 : Kd.C (Kd.int .u8) w A0 l0.length l0) (hc0 : l0.length ≤ c0) (h : spec_Crc32.f k l0 = some r) :
    Calls Tryd.prog 163 #[.slice A0 l0.length c0] w fun e w' => e = .returned (.int .u32 r) ∧ Drawn0 w w' := by
  have HR0 := Aside0.mk hr0
  have HC0 := Aside0.mk hc0
  clear hr0 hc0
  have H : (spec_Crc32.l0 k 4294967295 l0 (l0.length : Int) 0) = some r := h
  clear h
  have H' := Aside0.mk H
  clear H
  go_enter Tryd.func163, Tryd.ntmps163
  go_wp2
  go_loopg [3, 8] k (fun kq v3 v8 w' => ∃ (x3_1 : Int) (x8_1 : Int), v3 = .int .u32 x3_1 ∧ v8 = .int .i64 x8_1 ∧ Aside0 (spec_Crc32.l0 kq x3_1 l0 (l0.length : Int) x8_1 = some r) ∧ Aside0 (kq ≤ k) ∧ Drawn0 w w')
  case atStart => exact ⟨(4294967295), (0), (by first | rfl | (simp; done) | (simp [*]; done)), (by first | rfl | (simp; done) | (simp [*]; done)), H', ⟨Nat.le_refl _⟩, by repeat (first | exact Drawn0.refl _ | apply Drawn0.step)⟩
  case round =>
    clear H'
    try clear c1
    obtain ⟨x3_1, x8_1, rfl, rfl, HA, HK1, ⟨m1, rfl⟩⟩ := hrel
    cases gk with
    | zero => exact absurd HA.out (by simp [spec_Crc32.l0])
    | succ k1 =>
      have H := HA.out
      clear HA
      simp only [spec_Crc32.l0] at H
      by_cases c2 : x8_1 < (l0.length : Int)
      · rw [if_pos c2] at H
        have c2b0 : decide (x8_1 < (l0.length : Int)) = true := decide_eq_true c2
        clear c2
        by_cases c3 : 0 ≤ x8_1
        · rw [if_pos c3] at H
          have c3b0 : decide (0 ≤ x8_1) = true := decide_eq_true c3
          clear c3
          by_cases c4 : x8_1 < (l0.length : Int)
          · rw [if_pos c4] at H
            have c4b0 : decide (x8_1 < (l0.length : Int)) = true := decide_eq_true c4
            clear c4
            replace H := Option.bind_eq_some_iff.mp H
            obtain ⟨t133, A50, H⟩ := H
            replace H : (spec_Crc32.l0 k1 (Go.bits .xor .u32 ((Int.tdiv x3_1 256) % 4294967296) t133) l0 (l0.length : Int) (wrap64 (x8_1 + 1))) = some r := H
            have A5 := Aside0.mk A50
            clear A50
            have H' := Aside0.mk H
            clear H
            have p132 : 0 ≤ (x8_1 : Int) := of_decide_eq_true (by first | (with_reducible assumption) | assumption)
            have q132 : x8_1 < (l0.length : Int) := of_decide_eq_true (by first | (with_reducible assumption) | assumption)
            obtain ⟨ad132, e132, hx132_0⟩ := Kd.at_int HR0.out x8_1 p132 q132
            cases e132
            replace p132 := eq_true p132
            replace q132 := eq_true q132
            go_wp2_with (first | ((with_reducible refine gate_callee (f := 181) rfl ?_); refine goesL_ (some 19) rfl rfl Tryd.func181 (by kernel_rfl) rfl #[.int .u32 (Int.tmod (Go.bits .xor .u32 x3_1 ((rd l0 x8_1) % 4294967296)) 256)] rfl (by (try simp only [List.map_toArray, List.map_cons, List.map_nil]); first | done | rfl | (simp only [List.length_drop, List.length_take]; rfl)) ?_; (with_reducible refine (spec_l02Table.calls k1 (Int.tmod (Go.bits .xor .u32 x3_1 ((rd l0 x8_1) % 4294967296)) 256) t133 _ A5.out).mono ?_); rintro e w' ⟨rfl, ⟨nd, rfl⟩⟩; refine ⟨_, rfl, ?_⟩))
            go_roundg k1
            case measure => have := HK1.out; omega
            case rel => exact ⟨(Go.bits .xor .u32 ((Int.tdiv x3_1 256) % 4294967296) t133), (wrap64 (x8_1 + 1)), (by first | rfl | (simp; done) | (simp [*]; done)), (by first | rfl | (simp; done) | (simp [*]; done)), H', ⟨by have := HK1.out; omega⟩, by repeat (first | exact Drawn0.refl _ | apply Drawn0.step)⟩
          · rw [if_neg c4] at H
            exact absurd H (by simp)
        · rw [if_neg c3] at H
          exact absurd H (by simp)
      · rw [if_neg c2] at H
        have c2b0 : decide (x8_1 < (l0.length : Int)) = false := decide_eq_false c2
        clear c2
        obtain rfl := Option.some.inj H
        go_wp2
        go_ret
        exact ⟨by first | rfl | (simp; done) | (simp [*]; done), by repeat (first | exact Drawn0.refl _ | apply Drawn0.step)⟩
def spec_l02Sealed.f (k : Nat) (l0 : List Int) : Option (List Int) := (spec_l02Fill.f k l0 508).bind fun t134 => ((spec_Crc32.f k t134).bind fun t137 => ((spec_l02Put.f k (wrap64 (t137)) 4).bind fun t138 => (if t134.length + t138.length < 140737488355328 then (some (t134 ++ t138)) else (none))))
theorem spec_l02Sealed.mono : ∀ a0 k, LeO (spec_l02Sealed.f k a0) (spec_l02Sealed.f (k + 1) a0) := by
  intro a0 k
  unfold spec_l02Sealed.f
  repeat' first
      | (with_reducible exact spec_Crc32.mono _ _)
      | (with_reducible exact spec_l02Fill.mono _ _ _)
      | (with_reducible exact spec_l02Put.mono _ _ _)
      | (with_reducible exact LeO.refl _)
      | (with_reducible exact LeO.none _)
      | (with_reducible refine LeO.ite ?_ ?_)
      | (with_reducible refine LeO.bind ?_ (fun _ => ?_))
      | exact spec_Crc32.mono _ _
      | exact spec_l02Fill.mono _ _ _
      | exact spec_l02Put.mono _ _ _
      | exact LeO.none _
      | refine LeO.ite ?_ ?_
      | refine LeO.bind ?_ (fun _ => ?_)
set_option maxHeartbeats 8000000 in
set_option maxRecDepth 100000 in
theorem spec_l02Sealed.calls (k : Nat) (A0 : Option Addr) (c0 : Nat) (l0 : List Int) (r : List Int) (w : World) (hr0 : Kd.C (Kd.int .u8) w A0 l0.length l0) (hc0 : l0.length ≤ c0) (h : spec_l02Sealed.f k l0 = some r) :
    Calls Tryd.prog 139 #[.slice A0 l0.length c0] w fun e w' => ∃ v0_ : Value, e = .returned (v0_) ∧ Kd.R (Kd.int .u8) 5 w' w.heap.size (fun _ => True) v0_ r ∧ Below w.heap.size w w' := by
  have HR0 := Aside0.mk hr0
  have HC0 := Aside0.mk hc0
  clear hr0 hc0
  have HB := Aside0.mk (Below.refl w.heap.size w)
  have H : ((spec_l02Fill.f k l0 508).bind fun t134 => ((spec_Crc32.f k t134).bind fun t137 => ((spec_l02Put.f k (wrap64 (t137)) 4).bind fun t138 => (if t134.length + t138.length < 140737488355328 then (some (t134 ++ t138)) else (none))))) = some r := h
  clear h
  replace H := Option.bind_eq_some_iff.mp H
  obtain ⟨t134, A20, H⟩ := H
  replace H : ((spec_Crc32.f k t134).bind fun t137 => ((spec_l02Put.f k (wrap64 (t137)) 4).bind fun t138 => (if t134.length + t138.length < 140737488355328 then (some (t134 ++ t138)) else (none)))) = some r := H
  have A2 := Aside0.mk A20
  clear A20
  replace H := Option.bind_eq_some_iff.mp H
  obtain ⟨t137, A30, H⟩ := H
  replace H : ((spec_l02Put.f k (wrap64 (t137)) 4).bind fun t138 => (if t134.length + t138.length < 140737488355328 then (some (t134 ++ t138)) else (none))) = some r := H
  have A3 := Aside0.mk A30
  clear A30
  replace H := Option.bind_eq_some_iff.mp H
  obtain ⟨t138, A40, H⟩ := H
  replace H : (if t134.length + t138.length < 140737488355328 then (some (t134 ++ t138)) else (none)) = some r := H
  have A4 := Aside0.mk A40
  clear A40
  by_cases c5 : t134.length + t138.length < 140737488355328
  · rw [if_pos c5] at H
    have LMc5 := Aside0.mk c5
    clear c5
    obtain ⟨y141, hy141⟩ : ∃ y_ : List Int, y_ = (t134 ++ t138) := ⟨_, rfl⟩
    replace H : (some y141) = some r := by first | (rw [hy141]; with_reducible exact H) | (have H2_ := (Option.bind_some _ _).symm.trans H; rw [hy141]; with_reducible exact H2_) | (have H2_ := (Option.bind_some _ _).symm.trans H; with_reducible exact H2_) | with_reducible exact H | (rw [hy141]; exact H) | exact H
    have Ny141 := Aside0.mk hy141
    clear hy141
    obtain rfl := Option.some.inj H
    go_enter Tryd.func139, Tryd.ntmps139
    go_wp2_with (first | ((with_reducible refine gate_callee (f := 138) rfl ?_); refine goesL_ (some 5) rfl rfl Tryd.func138 (by kernel_rfl) rfl #[.slice A0 l0.length c0, .int .i64 508] rfl (by (try simp only [List.map_toArray, List.map_cons, List.map_nil]); first | done | rfl | (simp only [List.length_drop, List.length_take]; rfl)) ?_; (with_reducible refine (spec_l02Fill.calls k _ _ l0 508 t134 _ ?side1 ?side2 A2.out).mono ?_); (case side1 => repeat (first | exact HR0.out | (with_reducible refine Kd.C_alloc ?_ _) | (with_reducible refine Kd.C_drewN ?_ _) | (with_reducible refine Kd.C_drew ?_))); (case side2 => exact HC0.out); rintro e w6 ⟨v135, rfl, ho0, hb⟩; refine ⟨_, rfl, ?_⟩; have n0_ := Aside0.mk (Kd.R_lower ho0 (below_size (by repeat (first | (with_reducible first | exact HB.out | apply below_alloc | apply pw_below_drewN | apply below_drew1) | exact HB.out)))); have n1_ := Aside0.mk (below_step (by repeat (first | (with_reducible first | exact HB.out | apply below_alloc | apply pw_below_drewN | apply below_drew1) | exact HB.out)) hb); clear HB; have HO136 := n0_; have HB := n1_; clear n0_ n1_; (try clear hb); (try clear hb2); (try clear hk); (try clear hi); (try clear ho0); obtain ⟨Ao7, co7, eo7⟩ := Kd.R_slice HO136.out; subst eo7) | ((with_reducible refine gate_callee (f := 163) rfl ?_); refine goesL_ (some 8) rfl rfl Tryd.func163 (by kernel_rfl) rfl #[.slice Ao7 t134.length co7] rfl (by (try simp only [List.map_toArray, List.map_cons, List.map_nil]); first | done | rfl | (simp only [List.length_drop, List.length_take]; rfl)) ?_; (with_reducible refine (spec_Crc32.calls k _ _ t134 t137 _ ?side1 ?side2 A3.out).mono ?_); (case side1 => repeat (first | exact (Kd.R_reads' HO136.out).2.2 | (with_reducible refine Kd.C_alloc ?_ _) | (with_reducible refine Kd.C_drewN ?_ _) | (with_reducible refine Kd.C_drew ?_))); (case side2 => exact (Kd.R_reads' HO136.out).2.1); rintro e w' ⟨rfl, ⟨nd, rfl⟩⟩; refine ⟨_, rfl, ?_⟩) | ((with_reducible refine gate_callee (f := 137) rfl ?_); refine goesL_ (some 10) rfl rfl Tryd.func137 (by kernel_rfl) rfl #[.int .i64 (wrap64 (t137)), .int .i64 4] rfl (by (try simp only [List.map_toArray, List.map_cons, List.map_nil]); first | done | rfl | (simp only [List.length_drop, List.length_take]; rfl)) ?_; (with_reducible refine (spec_l02Put.calls k (wrap64 (t137)) 4 t138 _ A4.out).mono ?_); rintro e w8 ⟨v139, rfl, ho0, hb⟩; refine ⟨_, rfl, ?_⟩; have n0_ := Aside0.mk (Kd.R_elder' (by (with_reducible repeat (first | apply Kd.R_alloc | apply Kd.R_drewN | apply Kd.R_drew)); exact HO136.out) (Kd.R_base ho0) hb); have n1_ := Aside0.mk (Kd.R_lower (Kd.R_new' ho0 (Kd.R_lt (by (with_reducible repeat (first | apply Kd.R_alloc | apply Kd.R_drewN | apply Kd.R_drew)); exact HO136.out))) (below_size (by repeat (first | (with_reducible first | exact HB.out | apply below_alloc | apply pw_below_drewN | apply below_drew1) | exact HB.out)))); have n2_ := Aside0.mk (below_step (by repeat (first | (with_reducible first | exact HB.out | apply below_alloc | apply pw_below_drewN | apply below_drew1) | exact HB.out)) hb); clear HO136; clear HB; have HO136 := n0_; have HO140 := n1_; have HB := n2_; clear n0_ n1_ n2_; (try clear hb); (try clear hb2); (try clear hk); (try clear hi); (try clear ho0); obtain ⟨Ao10, co10, eo10⟩ := Kd.R_slice HO140.out; subst eo10) | ((with_reducible refine gate_builtin (b := .append) (xs := #[.tmp 6, .tmp 10]) rfl ?_); at_builtin; refine Kd.R_append_rows (Kd.int .u8) (w0 := w) w.heap.size rfl (.tmp 6) (.tmp 10) 22 5 (.int .u8 0) 1 rfl Tryd.underlying22 info5 rfl (by decide) (by omega) (.slice Ao7 t134.length co7) t134 t138 _ _ _ (fun k_ => some k_ ≠ (.slice Ao10 t138.length co10 : Value).ownBlock) (fun _ => False) rfl rfl ?aO ?aR (fun _ _ h => h) (fun _ h => h.elim) ?aF ?aB ?aS ?aL ?_; (case aR => repeat (first | exact (Kd.R_reads' HO140.out).2.2 | (with_reducible refine Kd.C_alloc ?_ _) | (with_reducible refine Kd.C_drewN ?_ _) | (with_reducible refine Kd.C_drew ?_))); (case aB => exact (by repeat (first | (with_reducible first | exact HB.out | apply below_alloc | apply pw_below_drewN | apply below_drew1) | exact HB.out))); (case aF => exact (fun k_ hk => Kd.fresh' (Kd.R_lt (by (with_reducible repeat (first | apply Kd.R_alloc | apply Kd.R_drewN | apply Kd.R_drew)); exact HO140.out)) k_ hk)); (case aO => exact (by (with_reducible repeat (first | apply Kd.R_alloc | apply Kd.R_drewN | apply Kd.R_drew)); exact Kd.R_mono HO136.out (fun _ hk => hk.2))); (case aS => exact (below_size (by repeat (first | (with_reducible first | exact HB.out | apply below_alloc | apply pw_below_drewN | apply below_drew1) | exact HB.out)))); (case aL => have := LMc5.out; omega); intro v142 w9 ho hb hg hat; rw [← Ny141.out] at ho; have n0_ := Aside0.mk (Kd.R_after (ok := (fun _ => True)) (by (with_reducible repeat (first | apply Kd.R_alloc | apply Kd.R_drewN | apply Kd.R_drew)); exact HO140.out) hg hat); have n1_ := Aside0.mk (hb); have n2_ := Aside0.mk (ho); clear HO140; clear HB; clear HO136; have HO140 := n0_; have HB := n1_; have HO143 := n2_; clear n0_ n1_ n2_; clear ho hb hg hat))
    go_ret
    exact ⟨_, by first | rfl | (simp [errW_none, errW_some] <;> rfl) | (simp [*, errW_none, errW_some] <;> rfl), by (with_reducible repeat (first | apply Kd.R_alloc | apply Kd.R_drewN | apply Kd.R_drew)); exact Kd.R_mono HO143.out (fun _ hk => trivial), by repeat (first | (with_reducible first | exact HB.out | apply below_alloc | apply pw_below_drewN | apply below_drew1) | exact HB.out)⟩
  · rw [if_neg c5] at H
    exact absurd H (by simp)
open Go.Proofs.YtknlpjoidjgciaaDoorW Go.Proofs.YtknlpjoidjgciaaDoorW.PrintHand Go.Proofs.YtknlpjoidjgciaaDoorW.PrintHx
def spec_l02Pointers.f (a0 : List Int) : Option (List Int) := if a0.length = 15 then some (seg a0 1 14) else none
set_option maxHeartbeats 8000000 in
set_option maxRecDepth 100000 in
theorem spec_l02Pointers.calls (a0 : List Int) (n0 : a0.length = 15) (r : List Int) (w : World) (h : spec_l02Pointers.f a0 = some r) :
    Calls Tryd.prog 161 #[.agg (nums .i64 a0).toArray] w fun e w' => ∃ v0_ : Value, e = .returned (v0_) ∧ Kd.R (Kd.int .i64) 3 w' w.heap.size (fun _ => True) v0_ r ∧ Below w.heap.size w w' := by
  unfold spec_l02Pointers.f at h
  rw [if_pos n0] at h
  obtain rfl := Option.some.inj h
  have N_ := Aside0.mk n0
  clear n0 h
  have info3_ : (Tryd.prog.info? 3).map (fun i => (i.zero, i.size, i.bytes)) = some (some (.int .i64 0), 1, 8) := by kernel_rfl
  have hu22 := Tryd.underlying22
  have HB0 : Aside0 (Below w.heap.size w w) := ⟨Below.refl _ _⟩
  obtain ⟨s0, Sz0⟩ : ∃ s0, Aside0 (w.heap.size = s0) := ⟨_, ⟨rfl⟩⟩
  have hw0 : w.heap.size ≤ s0 := Nat.le_of_eq Sz0.out
  have hw1 : s0 ≤ w.heap.size := Nat.le_of_eq Sz0.out.symm
  go_enter Tryd.func161, Tryd.ntmps161
  go_wp2_with (first | ((with_reducible refine gate_dst (N := 1) rfl ?_); refine hx_box rfl 1 rfl 124 (.tmp 0) rfl Sz0 (.agg (nums .i64 a0).toArray) (nums .i64 a0).toArray rfl rfl ?_; intro w1 s1 L1 Sz1 b1 g_; have H0 := Aside0.mk g_; have HB1 := Aside0.mk (below_then HB0.out HB0.out.size b1); clear g_ HB0 b1) | ((with_reducible refine gate_dst (N := 4) rfl ?_); refine Kd.R_lit (Kd.int .i64) (w0 := w) w.heap.size 3 rfl (N := 4) rfl (xs := ([] : List Int)) (inner := []) (ok := fun k => k ≠ s0) (okp := fun _ => False) ?hr (Reps.none _ _) (fun _ h_ => h_.elim) (by have := blk_lt H0.out; omega) HB1.out HB1.out.size (by simp) ?_; (case hr => first | (go_simp; done) | (go_simp; rfl)); intro v4 w2 ho hb hg_ hn_; have O4 := Aside0.mk ho; have HB2 := Aside0.mk hb; have H0_2 := Aside0.mk (blk_grown H0.out hg_ (by simp)); clear ho hb hg_ hn_ HB1 H0) | ((with_reducible refine gate_dst (N := 7) rfl ?_); refine Kd.R_append_rows (Kd.int .i64) (w0 := w) w.heap.size rfl (.tmp 4) (.tmp 6) 80 3 (.int .i64 0) 8 rfl Tryd.underlying80 info3_ rfl (by decide) (by omega) v4 [] (seg a0 1 12) (some ⟨s0, 1, none⟩) 12 12 (fun k => k ≠ s0) (fun _ => False) rfl rfl O4.out (part_reads H0_2.out 1 12 (le_len (n := 15) N_.out (by decide)) (by decide)) (fun _ _ h => h) (fun _ h => h.elim) (fun k hk => by have := blk_lt H0_2.out; omega) HB2.out HB2.out.size (by decide) ?_; intro v7 w3 ho hb hg_ hn_; have H0_3 := Aside0.mk (blk_grown H0_2.out hg_ (fun e_ => (O4.out.1 s0 e_.symm) rfl)); have O7 := Aside0.mk ho; have HB3 := Aside0.mk hb; clear ho hb hg_ hn_ HB2 H0_2 O4) | ((with_reducible refine gate_dst (N := 10) rfl ?_); refine hx_loadf rfl 3 (.tmp 9) rfl s0 13 rfl Tryd.underlying3 rfl H0_3.out (lt_len (n := 15) N_.out (by decide)) ?_) | ((with_reducible refine gate_dst (N := 12) rfl ?_); refine hx_loadf rfl 3 (.tmp 11) rfl s0 14 rfl Tryd.underlying3 rfl H0_3.out (lt_len (n := 15) N_.out (by decide)) ?_) | ((with_reducible refine gate_dst (N := 13) rfl ?_); refine Kd.R_lit (Kd.int .i64) (w0 := w) w.heap.size 3 rfl (N := 13) rfl (xs := ([a0.getD 13 0, a0.getD 14 0] : List Int)) (inner := (nums .i64 [a0.getD 13 0, a0.getD 14 0])) (ok := fun k => k ≠ s0) (okp := fun _ => False) ?hr (reps_ints _) (fun _ h_ => h_.elim) (by have := blk_lt H0_3.out; omega) HB3.out HB3.out.size (by simp) ?_; (case hr => first | (go_simp; done) | (go_simp; rfl)); intro v13 w4 ho hb hg_ hn_; have O13 := Aside0.mk ho; have HB4 := Aside0.mk hb; have O7_4 := Aside0.mk (Kd.R_grown O7.out hg_ (fun _ _ => by simp)); have H0_4 := Aside0.mk (blk_grown H0_3.out hg_ (by simp)); clear hb hg_ hn_ HB3 H0_3 O7; obtain ⟨A13, c13, rfl⟩ := Kd.R_slice ho; clear ho) | ((with_reducible refine gate_dst (N := 14) rfl ?_); refine Kd.R_append_rows (Kd.int .i64) (w0 := w) w.heap.size rfl (.tmp 8) (.tmp 13) 80 3 (.int .i64 0) 8 rfl Tryd.underlying80 info3_ rfl (by decide) (by omega) v7 ([] ++ seg a0 1 12) [a0.getD 13 0, a0.getD 14 0] _ _ _ (fun k => k ≠ s0) (fun _ => False) rfl rfl O7_4.out (Kd.R_reads' O13.out).2.2 (fun _ _ h => h) (fun _ h => h.elim) (fun k hk => by have := blk_lt H0_4.out; omega) HB4.out HB4.out.size (by rw [List.nil_append, part_len (n := 15) N_.out (by decide)]; show (12 + 2) * 8 ≤ 140737488355328; decide) ?_; intro v14 w5 ho hb hg_ hn_; have O14 := Aside0.mk ho; have HB5 := Aside0.mk hb; clear ho hb hg_ hn_ HB4 H0_4 O7_4 O13))
  go_ret
  have ho := O14.out
  rw [pointers_of a0 N_.out] at ho
  exact ⟨_, rfl, Kd.R_mono ho (fun _ _ => trivial), HB5.out⟩
open Go.Proofs.YtknlpjoidjgciaaDoorW Go.Proofs.YtknlpjoidjgciaaDoorW.PrintHand Go.Proofs.YtknlpjoidjgciaaDoorW.PrintHx
open Go.Proofs.YtknlpjoidjgciaaDoorW.PrintLe
theorem l02Put_l0 (n : Nat) (hn : n ≤ 4096) : ∀ (d i k : Nat) (v : Int) (x5 : List Int), i + d = n → d < k → 0 ≤ v → v ≤ 9223372036854775807 → x5.length ≤ 4096 + i → spec_l02Put.l0 k v (n : Int) x5 (i : Int) = some (x5 ++ leB v d)
  | 0, i, k, v, x5, h1, h2, h3, h4, h5 => by
    obtain ⟨k, rfl⟩ := sucK h2
    simp only [spec_l02Put.l0]
    rw [if_neg (by omega)]
    simp [leB]
  | d + 1, i, k, v, x5, h1, h2, h3, h4, h5 => by
    obtain ⟨k, rfl⟩ := sucK h2
    simp only [spec_l02Put.l0]
    rw [if_pos (by omega), if_pos (by omega), w64n (by omega), Int.tdiv_eq_ediv_of_nonneg h3, Int.tmod_eq_emod_of_nonneg h3, w64 (by omega) (by omega), l02Put_l0 n hn d (i + 1) k _ _ (by omega) (by omega) (by omega) (by omega) (by simp; omega), List.append_assoc]
    simp only [leB, List.cons_append, List.nil_append]
    rw [Int.emod_emod_of_dvd _ (by decide)]
theorem l02Put_f (v : Int) (n k : Nat) (hn : n ≤ 4096) (h0 : 0 ≤ v) (h1 : v ≤ 9223372036854775807) (hk : n < k) : spec_l02Put.f k v (n : Int) = some (leB v n) := by
  unfold spec_l02Put.f
  have h := l02Put_l0 n hn n 0 k v [] (by omega) hk h0 h1 (by simp)
  rw [List.nil_append] at h
  exact h
def spec_l02RootBytes.f (a0 : List Int) : Option (List Int) := if rootGood a0 = true then some (rootBytes a0) else none
set_option maxHeartbeats 8000000 in
set_option maxRecDepth 100000 in
theorem spec_l02RootBytes.calls (a0 : List Int) (n0 : a0.length = 15) (r : List Int) (w : World) (h : spec_l02RootBytes.f a0 = some r) :
    Calls Tryd.prog 140 #[.agg (nums .i64 a0).toArray] w fun e w' => ∃ v0_ : Value, e = .returned (v0_) ∧ Kd.R (Kd.int .u8) 5 w' w.heap.size (fun _ => True) v0_ r ∧ Below w.heap.size w w' := by
  unfold spec_l02RootBytes.f at h
  by_cases hgood : rootGood a0 = true
  case neg => rw [if_neg hgood] at h; cases h
  rw [if_pos hgood] at h
  obtain rfl := Option.some.inj h
  have N_ := Aside0.mk n0
  have HG := Aside0.mk hgood
  clear n0 h hgood
  obtain ⟨s, hs⟩ : ∃ s, s = a0.getD 0 0 := ⟨_, rfl⟩
  have hs1 : 0 ≤ s ∧ s ≤ 262144 := by rw [hs]; exact rootGood_size HG.out
  have HS := Aside0.mk hs
  have HP8 := Aside0.mk (show spec_l02Put.f 20 s 8 = some (leB s 8) from l02Put_f s 8 20 (by decide) hs1.1 (by omega) (by decide))
  clear hs hs1
  obtain ⟨xs, hxs⟩ : ∃ xs, xs = seg a0 1 14 := ⟨_, rfl⟩
  have HP := Aside0.mk (show spec_l02Pointers.f a0 = some xs by rw [hxs]; exact if_pos N_.out)
  have HXL := Aside0.mk (show xs.length = 14 by rw [hxs]; exact part_len (n := 15) N_.out (by decide))
  have HXS := Aside0.mk hxs
  have HXR := Aside0.mk (show ∀ j, j < 14 → 0 ≤ xs.getD j 0 ∧ xs.getD j 0 < 2048 by rw [hxs]; exact fun j hj => rootGood_ptr HG.out j hj)
  have info5_ : (Tryd.prog.info? 5).map (fun i => (i.zero, i.size, i.bytes)) = some (some (.int .u8 0), 1, 1) := by kernel_rfl
  clear hxs
  have HB0 : Aside0 (Below w.heap.size w w) := ⟨Below.refl _ _⟩
  obtain ⟨s0, Sz0⟩ : ∃ s0, Aside0 (w.heap.size = s0) := ⟨_, ⟨rfl⟩⟩
  have hw0 : w.heap.size ≤ s0 := Nat.le_of_eq Sz0.out
  have hw1 : s0 ≤ w.heap.size := Nat.le_of_eq Sz0.out.symm
  go_enter Tryd.func140, Tryd.ntmps140
  go_wp2_with (first | ((with_reducible refine gate_dst (N := 1) rfl ?_); refine hx_box rfl 1 rfl 124 (.tmp 0) rfl Sz0 (.agg (nums .i64 a0).toArray) (nums .i64 a0).toArray rfl rfl ?_; intro w1 s1 L1 Sz1 b1 g_; have H0 := Aside0.mk g_; have HB1 := Aside0.mk (below_then HB0.out HB0.out.size b1); clear g_ HB0 b1) | ((with_reducible refine gate_dst (N := 7) rfl ?_); refine hx_loadf rfl 3 (.tmp 6) rfl s0 0 rfl Tryd.underlying3 rfl H0.out (lt_len (n := 15) N_.out (by decide)) ?_; rw [← HS.out]) | ((with_reducible refine gate_dst (N := 8) rfl ?_); refine goesL_ (some 8) rfl rfl Tryd.func137 (by kernel_rfl) rfl #[.int .i64 s, .int .i64 8] rfl (by (try simp only [List.map_toArray, List.map_cons, List.map_nil]); first | done | rfl) ?_; refine (spec_l02Put.calls _ _ _ _ _ HP8.out).mono ?_; rintro e_ w2 ⟨v8, rfl, R_, b_⟩; refine ⟨_, rfl, ?_⟩; obtain ⟨s2, L2, Sz2⟩ := size_letter Sz1 (kept_below b_); have O2 := own_btw R_ Sz1.out Sz2 HB1.out.size; have HB2 := Aside0.mk (below_then HB1.out HB1.out.size b_); have H2 := Aside0.mk (blk_below H0.out b_); clear R_ b_ HB1 H0) | ((with_reducible refine gate_dst (N := 9) rfl ?_); refine hx_load rfl 124 (.tmp 1) rfl s0 15 rfl Tryd.underlying124 rfl (by kernel_rfl) H2.out (nums_size _ _ _ N_.out) ?_) | ((with_reducible refine gate_dst (N := 10) rfl ?_); refine goesL_ (some 10) rfl rfl Tryd.func161 (by kernel_rfl) rfl #[.agg (nums .i64 a0).toArray] rfl (by (try simp only [List.map_toArray, List.map_cons, List.map_nil]); first | done | rfl) ?_; refine (spec_l02Pointers.calls a0 N_.out xs _ HP.out).mono ?_; rintro e_ w3 ⟨v0_, rfl, R_, b_⟩; obtain ⟨A10, c10, rfl⟩ := Kd.R_slice R_; refine ⟨_, rfl, ?_⟩; obtain ⟨s3, L3, Sz3⟩ := size_letter Sz2 (kept_below b_); have OP := own_btw R_ Sz2.out Sz3 HB2.out.size; have HB3 := Aside0.mk (below_then HB2.out HB2.out.size b_); have OO := Aside0.mk (Kd.R_mono (Kd.R_below O2.out b_) (fun k hk h2 => by have h1_ := hk.2; have h3_ := h2.1; omega : ∀ k, Btw s1 s2 k → ¬ Btw s2 s3 k)); have HS3 : s3 ≤ w3.heap.size := Nat.le_of_eq Sz3.out.symm; clear R_ b_ HB2 H2 O2))
  (try simp only [Act.put, List.setIfInBounds_toArray, List.set_cons_succ, List.set_cons_zero])
  go_loopw [3, 12] (fun v3 v12 wr => ∃ (j : Nat) (u : Value), u = v3 ∧ v12 = .int .i64 (j : Int) ∧ Aside0 (j ≤ 14) ∧ Aside0 (Kd.R (Kd.int .u8) 5 wr w.heap.size (fun k => ¬ Btw s2 s3 k) v3 (leB s 8 ++ flat4 (xs.take j))) ∧ Aside0 (Kd.R (Kd.int .i64) 3 wr w.heap.size (Btw s2 s3) (.slice A10 xs.length c10) xs) ∧ Aside0 (Below w.heap.size w wr) ∧ s3 ≤ wr.heap.size) (fun _ v12 _ => 14 - (intOf v12).toNat)
  case atStart => exact ⟨0, _, rfl, rfl, ⟨by omega⟩, ⟨by rw [List.take_zero, flat4, List.append_nil]; exact OO.out⟩, OP, HB3, HS3⟩
  case round =>
    clear OO OP HB3 HS3
    obtain ⟨j, v3, rfl, rfl, hj, OO0, OP, HB, HS3⟩ := hrel
    by_cases c9 : j < 14
    · have c9b0 : decide ((j : Int) < (xs.length : Int)) = true := decide_eq_true (by rw [HXL.out]; omega)
      have c9b1 : decide (j < xs.length) = true := decide_eq_true (by rw [HXL.out]; omega)
      have p112 : 0 ≤ (j : Int) := by omega
      have q112 : (j : Int) < (xs.length : Int) := by rw [HXL.out]; omega
      obtain ⟨ad112, e112, hx112⟩ := Kd.at_int (Kd.R_reads' OP.out).2.2 (j : Int) p112 q112
      cases e112
      rw [Int.toNat_natCast] at hx112
      replace p112 := eq_true p112
      replace q112 := eq_true q112
      have q113 : (j < xs.length) = True := eq_true (by rw [HXL.out]; omega)
      obtain ⟨p, hp⟩ : ∃ p, p = rd xs (j : Int) := ⟨_, rfl⟩
      rw [← hp] at hx112
      have HPV := Aside0.mk (show p = xs.getD j 0 by rw [hp, rd, Int.toNat_natCast])
      have hpr : 0 ≤ p ∧ p < 2048 := by rw [HPV.out]; exact HXR.out j c9
      have HP4 := Aside0.mk (show spec_l02Put.f 20 p 4 = some (leB p 4) from l02Put_f p 4 20 (by decide) hpr.1 (by omega) (by decide))
      have C9 := Aside0.mk c9
      obtain ⟨bs, hbs⟩ : ∃ bs, bs = leB s 8 ++ flat4 (xs.take j) := ⟨_, rfl⟩
      have oo := OO0.out
      rw [← hbs] at oo
      have OO := Aside0.mk oo
      have HBL := Aside0.mk (show bs.length = 8 + 4 * j by rw [hbs, List.length_append, leB_length, flat4_length, List.length_take, HXL.out, Nat.min_eq_left (by omega)])
      have HBS := Aside0.mk hbs
      clear hp c9 hpr hbs oo OO0
      go_wp2_with (first | ((with_reducible refine gate_dst (N := 18) rfl ?_); refine goesL_ (some 18) rfl rfl Tryd.func137 (by kernel_rfl) rfl #[.int .i64 p, .int .i64 4] rfl (by (try simp only [List.map_toArray, List.map_cons, List.map_nil]); first | done | rfl) ?_; refine (spec_l02Put.calls _ _ _ _ _ HP4.out).mono ?_; rintro e_ w4 ⟨v0_, rfl, R_, b_⟩; obtain ⟨A18, c18, rfl⟩ := Kd.R_slice R_; refine ⟨_, rfl, ?_⟩; have O18 := Aside0.mk R_; have HBn := Aside0.mk (below_then HB.out HB.out.size b_); have OOn := Aside0.mk (Kd.R_below OO.out b_); have OPn := Aside0.mk (Kd.R_below OP.out b_); have HS4 : s3 ≤ w4.heap.size := Nat.le_trans HS3 b_.size; clear R_ b_ HB OO OP) | ((with_reducible refine gate_dst (N := 19) rfl ?_); refine Kd.R_append_rows (Kd.int .u8) (w0 := w) w.heap.size rfl (.tmp 16) (.tmp 18) 22 5 (.int .u8 0) 1 rfl Tryd.underlying22 info5_ rfl (by decide) (by omega) v3 bs (leB p 4) _ _ _ (fun k => ¬ Btw s2 s3 k) (fun _ => False) rfl rfl OOn.out (Kd.R_reads' O18.out).2.2 (fun _ _ h => h) (fun _ h => h.elim) (fun k hk h2 => by have h3_ := h2.2; omega) HBn.out HBn.out.size (by have h1_ := HBL.out; have h2_ := C9.out; show (bs.length + (leB p 4).length) * 1 ≤ _; rw [leB_length, h1_]; omega) ?_; intro v19 w5 ho hb hg_ hn_; have OO5 := Aside0.mk ho; have HB5 := Aside0.mk hb; have OP5 := Aside0.mk (Kd.R_grown OPn.out hg_ (fun k hk e_ => OOn.out.1 k e_.symm hk)); have HS5 : s3 ≤ w5.heap.size := Nat.le_trans HS4 hg_.size; clear ho hb hg_ hn_ HBn OOn OPn O18))
      go_roundw
      case rel =>
        refine ⟨j + 1, _, rfl, by rw [show wrap64 ((j : Int) + 1) = ((j + 1 : Nat) : Int) by (have := C9.out; unfold wrap64; omega)], ⟨by have := C9.out; omega⟩, ⟨?_⟩, OP5, HB5, HS5⟩
        have ho := OO5.out
        have e_ : bs ++ leB p 4 = leB s 8 ++ flat4 (xs.take (j + 1)) := by rw [HBS.out, flat4_take xs j (by rw [HXL.out]; exact C9.out), ← HPV.out, List.append_assoc]
        rw [e_] at ho
        exact ho
      case measure =>
        rw [show wrap64 ((j : Int) + 1) = ((j + 1 : Nat) : Int) by (have := C9.out; unfold wrap64; omega)]
        simp only [intOf, Int.toNat_natCast]
        have := C9.out
        omega
    · obtain rfl : j = 14 := by have := hj.out; omega
      have c9b0 : decide ((14 : Int) < (xs.length : Int)) = false := decide_eq_false (by rw [HXL.out]; decide)
      have c9b1 : decide (14 < xs.length) = false := decide_eq_false (by rw [HXL.out]; decide)
      go_wp2
      go_ret
      have ho := OO0.out
      rw [List.take_of_length_le (by rw [HXL.out]; exact Nat.le_refl _), HXS.out, HS.out] at ho
      exact ⟨_, rfl, Kd.R_mono ho (fun _ _ => trivial), HB.out⟩
def spec_l02Within.f (a0 : Int) (a1 : Int) (a2 : Int) : Option (Bool) := if a0 ≥ a1 then (some (decide (a0 ≤ a2))) else (some false)
set_option maxHeartbeats 8000000 in
set_option maxRecDepth 100000 in
theorem spec_l02Within.calls (a0 : Int) (a1 : Int) (a2 : Int) (r : Bool) (w : World) (h : spec_l02Within.f a0 a1 a2 = some r) :
    Calls Tryd.prog 132 #[.int .i64 a0, .int .i64 a1, .int .i64 a2] w fun e w' => e = .returned (.bool r) ∧ Drawn0 w w' := by
  have H : (if a0 ≥ a1 then (some (decide (a0 ≤ a2))) else (some false)) = some r := h
  clear h
  by_cases c4 : a0 ≥ a1
  · rw [if_pos c4] at H
    have c4b0 : decide (a1 ≤ a0) = true := decide_eq_true c4
    clear c4
    obtain rfl := Option.some.inj H
    go_enter Tryd.func132, Tryd.ntmps132
    go_wp2
    go_ret
    exact ⟨by first | rfl | (simp; done) | (simp [*]; done), by repeat (first | exact Drawn0.refl _ | apply Drawn0.step)⟩
  · rw [if_neg c4] at H
    have c4b0 : decide (a1 ≤ a0) = false := decide_eq_false c4
    clear c4
    obtain rfl := Option.some.inj H
    go_enter Tryd.func132, Tryd.ntmps132
    go_wp2
    go_ret
    exact ⟨by first | rfl | (simp; done) | (simp [*]; done), by repeat (first | exact Drawn0.refl _ | apply Drawn0.step)⟩
def spec_l02Pointer.f (a0 : Int) : Option (Bool) := if a0 = 0 then (some true) else (if a0 ≥ 2 then (some (decide (a0 < 2048))) else (some false))
set_option maxHeartbeats 8000000 in
set_option maxRecDepth 100000 in
theorem spec_l02Pointer.calls (a0 : Int) (r : Bool) (w : World) (h : spec_l02Pointer.f a0 = some r) :
    Calls Tryd.prog 162 #[.int .i64 a0] w fun e w' => e = .returned (.bool r) ∧ Drawn0 w w' := by
  have H : (if a0 = 0 then (some true) else (if a0 ≥ 2 then (some (decide (a0 < 2048))) else (some false))) = some r := h
  clear h
  by_cases c2 : a0 = 0
  · rw [if_pos c2] at H
    have c2b0 : (a0 == 0) = true := beq_iff_eq.mpr c2
    have c2b1 : (a0 != 0) = false := bne_eq_false_iff_eq.mpr c2
    clear c2
    obtain rfl := Option.some.inj H
    go_enter Tryd.func162, Tryd.ntmps162
    go_wp2
    go_ret
    exact ⟨by first | rfl | (simp; done) | (simp [*]; done), by repeat (first | exact Drawn0.refl _ | apply Drawn0.step)⟩
  · rw [if_neg c2] at H
    have c2b0 : (a0 == 0) = false := beq_eq_false_iff_ne.mpr c2
    have c2b1 : (a0 != 0) = true := bne_iff_ne.mpr c2
    by_cases c3 : a0 ≥ 2
    · rw [if_pos c3] at H
      have c3b0 : decide (2 ≤ a0) = true := decide_eq_true c3
      clear c3
      obtain rfl := Option.some.inj H
      go_enter Tryd.func162, Tryd.ntmps162
      go_wp2
      go_ret
      exact ⟨by first | rfl | (simp; done) | (simp [*]; done), by repeat (first | exact Drawn0.refl _ | apply Drawn0.step)⟩
    · rw [if_neg c3] at H
      have c3b0 : decide (2 ≤ a0) = false := decide_eq_false c3
      clear c3
      obtain rfl := Option.some.inj H
      go_enter Tryd.func162, Tryd.ntmps162
      go_wp2
      go_ret
      exact ⟨by first | rfl | (simp; done) | (simp [*]; done), by repeat (first | exact Drawn0.refl _ | apply Drawn0.step)⟩
open Go.Proofs.YtknlpjoidjgciaaDoorW Go.Proofs.YtknlpjoidjgciaaDoorW.PrintHand Go.Proofs.YtknlpjoidjgciaaDoorW.PrintHx
def spec_l02Root.f (a0 : List Int) : Option Bool := some (rootGood a0)
theorem spec_l02Root.ptr (p : Int) : spec_l02Pointer.f p = some (ptrOk p) := by
  unfold spec_l02Pointer.f ptrOk
  by_cases h : p = 0
  · simp [h]
  · by_cases h2 : p ≥ 2
    · simp [h, h2]
    · simp [h, h2]
theorem spec_l02Root.fits {a : List Int} (j : Nat) (h : ptrOk ((seg a 1 14).getD j 0) = true) (h2 : (seg a 1 14).getD j 0 = 0 ∨ least j < (a.getD 0 0 + 511) / 512) : ptrFits a j = true := by
  unfold ptrFits
  rw [h]
  rcases h2 with h2 | h2
  · rw [decide_eq_true h2]; rfl
  · rw [decide_eq_true h2]; simp
theorem spec_l02Root.unfit {a : List Int} (j : Nat) (h : ¬ (seg a 1 14).getD j 0 = 0) (h2 : ¬ least j < (a.getD 0 0 + 511) / 512) : ptrFits a j = false := by
  unfold ptrFits
  rw [decide_eq_false h, decide_eq_false h2]
  simp
set_option maxHeartbeats 8000000 in
set_option maxRecDepth 100000 in
theorem spec_l02Root.calls (a0 : List Int) (n0 : a0.length = 15) (r : Bool) (w : World) (h : spec_l02Root.f a0 = some r) :
    Calls Tryd.prog 134 #[.agg (nums .i64 a0).toArray] w fun e w' => e = .returned (.bool r) ∧ Below w.heap.size w w' := by
  have H := Aside0.mk (Option.some.inj h)
  have N_ := Aside0.mk n0
  clear n0 h
  obtain ⟨s, hs⟩ : ∃ s, s = a0.getD 0 0 := ⟨_, rfl⟩
  have HS := Aside0.mk hs
  clear hs
  obtain ⟨xs, hxs⟩ : ∃ xs, xs = seg a0 1 14 := ⟨_, rfl⟩
  have HP := Aside0.mk (show spec_l02Pointers.f a0 = some xs by rw [hxs]; exact if_pos N_.out)
  have HXL := Aside0.mk (show xs.length = 14 by rw [hxs]; exact part_len (n := 15) N_.out (by decide))
  have HXS := Aside0.mk hxs
  clear hxs
  have HB0 : Aside0 (Below w.heap.size w w) := ⟨Below.refl _ _⟩
  obtain ⟨s0, Sz0⟩ : ∃ s0, Aside0 (w.heap.size = s0) := ⟨_, ⟨rfl⟩⟩
  have hw0 : w.heap.size ≤ s0 := Nat.le_of_eq Sz0.out
  have hw1 : s0 ≤ w.heap.size := Nat.le_of_eq Sz0.out.symm
  by_cases c1 : s < 0
  · have c1_ : decide (s < 0) = true := decide_eq_true c1
    have C1 := Aside0.mk c1
    clear c1
    go_enter Tryd.func134, Tryd.ntmps134
    go_wp2_with (first | ((with_reducible refine gate_dst (N := 1) rfl ?_); refine hx_box rfl 1 rfl 124 (.tmp 0) rfl Sz0 (.agg (nums .i64 a0).toArray) (nums .i64 a0).toArray rfl rfl ?_; intro w1 s1 L1 Sz1 b1 g_; have H0 := Aside0.mk g_; have HB1 := Aside0.mk (below_then HB0.out HB0.out.size b1); clear g_ HB0 b1; have c0_ := row_cell H0.out 0 (lt_len (n := 15) N_.out (by decide)); rw [← HS.out] at c0_))
    go_ret
    refine ⟨?_, HB1.out⟩
    rw [← H.out, rootGood_low (by rw [← HS.out]; exact C1.out)]; rfl
  have c1_ : decide (s < 0) = false := decide_eq_false c1
  have c1n : 0 ≤ s := by omega
  clear c1
  by_cases c2 : 262144 < s
  · have c2_ : decide (262144 < s) = true := decide_eq_true c2
    have C2 := Aside0.mk c2
    clear c2
    go_enter Tryd.func134, Tryd.ntmps134
    go_wp2_with (first | ((with_reducible refine gate_dst (N := 1) rfl ?_); refine hx_box rfl 1 rfl 124 (.tmp 0) rfl Sz0 (.agg (nums .i64 a0).toArray) (nums .i64 a0).toArray rfl rfl ?_; intro w1 s1 L1 Sz1 b1 g_; have H0 := Aside0.mk g_; have HB1 := Aside0.mk (below_then HB0.out HB0.out.size b1); clear g_ HB0 b1; have c0_ := row_cell H0.out 0 (lt_len (n := 15) N_.out (by decide)); rw [← HS.out] at c0_))
    go_ret
    refine ⟨?_, HB1.out⟩
    rw [← H.out, rootGood_high (by rw [← HS.out]; exact C2.out)]; rfl
  have c2_ : decide (262144 < s) = false := decide_eq_false c2
  have c2n : s ≤ 262144 := by omega
  clear c2
  go_enter Tryd.func134, Tryd.ntmps134
  go_wp2_with (first | ((with_reducible refine gate_dst (N := 1) rfl ?_); refine hx_box rfl 1 rfl 124 (.tmp 0) rfl Sz0 (.agg (nums .i64 a0).toArray) (nums .i64 a0).toArray rfl rfl ?_; intro w1 s1 L1 Sz1 b1 g_; have H0 := Aside0.mk g_; have HB1 := Aside0.mk (below_then HB0.out HB0.out.size b1); clear g_ HB0 b1; have c0_ := row_cell H0.out 0 (lt_len (n := 15) N_.out (by decide)); rw [← HS.out] at c0_) | ((with_reducible refine gate_dst (N := 20) rfl ?_); refine hx_load rfl 124 (.tmp 1) rfl s0 15 rfl Tryd.underlying124 rfl (by kernel_rfl) H0.out (nums_size _ _ _ N_.out) ?_) | ((with_reducible refine gate_dst (N := 21) rfl ?_); refine goesL_ (some 21) rfl rfl Tryd.func161 (by kernel_rfl) rfl #[.agg (nums .i64 a0).toArray] rfl (by (try simp only [List.map_toArray, List.map_cons, List.map_nil]); first | done | rfl) ?_; refine (spec_l02Pointers.calls a0 N_.out xs _ HP.out).mono ?_; rintro e_ w3 ⟨v0_, rfl, R_, b_⟩; obtain ⟨A21, c21, rfl⟩ := Kd.R_slice R_; refine ⟨_, rfl, ?_⟩; have O := Aside0.mk R_; have HB := Aside0.mk (below_then HB1.out HB1.out.size b_); clear R_ b_ HB1 H0 c0_))
  (try simp only [Act.put, List.setIfInBounds_toArray, List.set_cons_succ, List.set_cons_zero])
  go_loopw [23] (fun v23 wr => ∃ j : Nat, v23 = .int .i64 (j : Int) ∧ Aside0 (j ≤ 14) ∧ Aside0 (∀ i, i < j → ptrFits a0 i = true) ∧ Drawn0 w3 wr) (fun v23 _ => 14 - (intOf v23).toNat)
  case atStart => exact ⟨0, rfl, ⟨by omega⟩, ⟨fun i hi => absurd hi (Nat.not_lt_zero i)⟩, Drawn0.refl _⟩
  case round =>
    obtain ⟨j, rfl, hj, hall, ⟨m2, rfl⟩⟩ := hrel
    by_cases c9 : j < 14
    · have c9b0 : decide ((j : Int) < (xs.length : Int)) = true := decide_eq_true (by rw [HXL.out]; omega)
      have c9b1 : decide (j < xs.length) = true := decide_eq_true (by rw [HXL.out]; omega)
      have p112 : 0 ≤ (j : Int) := by omega
      have q112 : (j : Int) < (xs.length : Int) := by rw [HXL.out]; omega
      obtain ⟨ad112, e112, hx112⟩ := Kd.at_int (Kd.C_drewN (Kd.R_reads' O.out).2.2 m2) (j : Int) p112 q112
      cases e112
      rw [Int.toNat_natCast] at hx112
      replace p112 := eq_true p112
      replace q112 := eq_true q112
      have q113 : (j < xs.length) = True := eq_true (by rw [HXL.out]; omega)
      obtain ⟨p, hp⟩ : ∃ p, p = rd xs (j : Int) := ⟨_, rfl⟩
      rw [← hp] at hx112
      have HPV := Aside0.mk (show p = (seg a0 1 14).getD j 0 by rw [hp, HXS.out, rd, Int.toNat_natCast])
      have C9 := Aside0.mk c9
      clear hp c9
      by_cases cj : j = 12
      · have hlst : least j = 12 := by rw [least, if_pos cj]
        have cj0_ : ((j : Int) == 12) = true := beq_iff_eq.mpr (by omega)
        have cj1_ : ((j : Int) == 13) = false := beq_eq_false_iff_ne.mpr (by omega)
        have CJ := Aside0.mk cj
        have HLS := Aside0.mk hlst
        clear cj hlst
        by_cases cq : ptrOk p = true
        · have HQ := Aside0.mk ((spec_l02Root.ptr p).trans (by rw [cq]))
          have CQ := Aside0.mk cq
          clear cq
          by_cases cz : p = 0
          · have cz_ : (p != 0) = false := bne_eq_false_iff_eq.mpr cz
            have CZ := Aside0.mk cz
            clear cz
            go_wp2_with (first | (go_at_call 162; refine (spec_l02Pointer.calls p true _ HQ.out).mono ?_; rintro e_ w_ ⟨rfl, ⟨nd, rfl⟩⟩))
            have hg := Aside0.mk (show ptrFits a0 j = true from spec_l02Root.fits j (by rw [← HPV.out]; exact CQ.out) (.inl (by rw [← HPV.out]; exact CZ.out)))
            go_roundw
            case rel =>
              refine ⟨j + 1, by rw [show wrap64 ((j : Int) + 1) = ((j + 1 : Nat) : Int) by (have := C9.out; unfold wrap64; omega)], ⟨by have := C9.out; omega⟩, ⟨fun i hi => ?_⟩, by repeat (first | exact Drawn0.refl _ | apply Drawn0.step)⟩
              by_cases hij : i = j
              · subst hij; exact hg.out
              · exact hall.out i (by omega)
            case measure =>
              rw [show wrap64 ((j : Int) + 1) = ((j + 1 : Nat) : Int) by (have := C9.out; unfold wrap64; omega)]
              simp only [intOf, Int.toNat_natCast]
              have := C9.out
              omega
          · have cz_ : (p != 0) = true := bne_iff_ne.mpr cz
            have CZ := Aside0.mk cz
            clear cz
            by_cases cb : (s + 512 - 1) / 512 ≤ 12
            · have cb_ : decide ((s + 512 - 1) / 512 ≤ 12) = true := decide_eq_true cb
              have CB := Aside0.mk cb
              clear cb
              go_wp2_with (first | (go_at_call 162; refine (spec_l02Pointer.calls p true _ HQ.out).mono ?_; rintro e_ w_ ⟨rfl, ⟨nd, rfl⟩⟩))
              go_ret
              refine ⟨?_, by first | exact pw_below_drewN HB.out _ | exact pw_below_drewN (pw_below_drewN HB.out _) _⟩
              have e_ : rootGood a0 = false := rootGood_bad j (by have := C9.out; omega) (spec_l02Root.unfit j (by rw [← HPV.out]; exact CZ.out) (by rw [HLS.out, ← HS.out]; have := CB.out; omega))
              rw [← H.out, e_]; rfl
            · have cb_ : decide ((s + 512 - 1) / 512 ≤ 12) = false := decide_eq_false cb
              have CB := Aside0.mk cb
              clear cb
              go_wp2_with (first | (go_at_call 162; refine (spec_l02Pointer.calls p true _ HQ.out).mono ?_; rintro e_ w_ ⟨rfl, ⟨nd, rfl⟩⟩))
              have hg := Aside0.mk (show ptrFits a0 j = true from spec_l02Root.fits j (by rw [← HPV.out]; exact CQ.out) (.inr (by rw [HLS.out, ← HS.out]; have := CB.out; omega)))
              go_roundw
              case rel =>
                refine ⟨j + 1, by rw [show wrap64 ((j : Int) + 1) = ((j + 1 : Nat) : Int) by (have := C9.out; unfold wrap64; omega)], ⟨by have := C9.out; omega⟩, ⟨fun i hi => ?_⟩, by repeat (first | exact Drawn0.refl _ | apply Drawn0.step)⟩
                by_cases hij : i = j
                · subst hij; exact hg.out
                · exact hall.out i (by omega)
              case measure =>
                rw [show wrap64 ((j : Int) + 1) = ((j + 1 : Nat) : Int) by (have := C9.out; unfold wrap64; omega)]
                simp only [intOf, Int.toNat_natCast]
                have := C9.out
                omega
        · have cq2 : ptrOk p = false := by simpa using cq
          have HQ := Aside0.mk ((spec_l02Root.ptr p).trans (by rw [cq2]))
          have CQ := Aside0.mk cq2
          clear cq cq2
          go_wp2_with (first | (go_at_call 162; refine (spec_l02Pointer.calls p false _ HQ.out).mono ?_; rintro e_ w_ ⟨rfl, ⟨nd, rfl⟩⟩))
          go_ret
          refine ⟨?_, by first | exact pw_below_drewN HB.out _ | exact pw_below_drewN (pw_below_drewN HB.out _) _⟩
          have e_ : rootGood a0 = false := rootGood_bad j (by have := C9.out; omega) (by rw [ptrFits, ← HPV.out, CQ.out]; rfl)
          rw [← H.out, e_]; rfl
      · by_cases cj2 : j = 13
        · have cj := cj2
          clear cj2
          have hlst : least j = 140 := by rw [least, if_neg (by omega), if_pos cj]
          have cj0_ : ((j : Int) == 12) = false := beq_eq_false_iff_ne.mpr (by omega)
          have cj1_ : ((j : Int) == 13) = true := beq_iff_eq.mpr (by omega)
          have CJ := Aside0.mk cj
          have HLS := Aside0.mk hlst
          clear cj hlst
          by_cases cq : ptrOk p = true
          · have HQ := Aside0.mk ((spec_l02Root.ptr p).trans (by rw [cq]))
            have CQ := Aside0.mk cq
            clear cq
            by_cases cz : p = 0
            · have cz_ : (p != 0) = false := bne_eq_false_iff_eq.mpr cz
              have CZ := Aside0.mk cz
              clear cz
              go_wp2_with (first | (go_at_call 162; refine (spec_l02Pointer.calls p true _ HQ.out).mono ?_; rintro e_ w_ ⟨rfl, ⟨nd, rfl⟩⟩))
              have hg := Aside0.mk (show ptrFits a0 j = true from spec_l02Root.fits j (by rw [← HPV.out]; exact CQ.out) (.inl (by rw [← HPV.out]; exact CZ.out)))
              go_roundw
              case rel =>
                refine ⟨j + 1, by rw [show wrap64 ((j : Int) + 1) = ((j + 1 : Nat) : Int) by (have := C9.out; unfold wrap64; omega)], ⟨by have := C9.out; omega⟩, ⟨fun i hi => ?_⟩, by repeat (first | exact Drawn0.refl _ | apply Drawn0.step)⟩
                by_cases hij : i = j
                · subst hij; exact hg.out
                · exact hall.out i (by omega)
              case measure =>
                rw [show wrap64 ((j : Int) + 1) = ((j + 1 : Nat) : Int) by (have := C9.out; unfold wrap64; omega)]
                simp only [intOf, Int.toNat_natCast]
                have := C9.out
                omega
            · have cz_ : (p != 0) = true := bne_iff_ne.mpr cz
              have CZ := Aside0.mk cz
              clear cz
              by_cases cb : (s + 512 - 1) / 512 ≤ 140
              · have cb_ : decide ((s + 512 - 1) / 512 ≤ 140) = true := decide_eq_true cb
                have CB := Aside0.mk cb
                clear cb
                go_wp2_with (first | (go_at_call 162; refine (spec_l02Pointer.calls p true _ HQ.out).mono ?_; rintro e_ w_ ⟨rfl, ⟨nd, rfl⟩⟩))
                go_ret
                refine ⟨?_, by first | exact pw_below_drewN HB.out _ | exact pw_below_drewN (pw_below_drewN HB.out _) _⟩
                have e_ : rootGood a0 = false := rootGood_bad j (by have := C9.out; omega) (spec_l02Root.unfit j (by rw [← HPV.out]; exact CZ.out) (by rw [HLS.out, ← HS.out]; have := CB.out; omega))
                rw [← H.out, e_]; rfl
              · have cb_ : decide ((s + 512 - 1) / 512 ≤ 140) = false := decide_eq_false cb
                have CB := Aside0.mk cb
                clear cb
                go_wp2_with (first | (go_at_call 162; refine (spec_l02Pointer.calls p true _ HQ.out).mono ?_; rintro e_ w_ ⟨rfl, ⟨nd, rfl⟩⟩))
                have hg := Aside0.mk (show ptrFits a0 j = true from spec_l02Root.fits j (by rw [← HPV.out]; exact CQ.out) (.inr (by rw [HLS.out, ← HS.out]; have := CB.out; omega)))
                go_roundw
                case rel =>
                  refine ⟨j + 1, by rw [show wrap64 ((j : Int) + 1) = ((j + 1 : Nat) : Int) by (have := C9.out; unfold wrap64; omega)], ⟨by have := C9.out; omega⟩, ⟨fun i hi => ?_⟩, by repeat (first | exact Drawn0.refl _ | apply Drawn0.step)⟩
                  by_cases hij : i = j
                  · subst hij; exact hg.out
                  · exact hall.out i (by omega)
                case measure =>
                  rw [show wrap64 ((j : Int) + 1) = ((j + 1 : Nat) : Int) by (have := C9.out; unfold wrap64; omega)]
                  simp only [intOf, Int.toNat_natCast]
                  have := C9.out
                  omega
          · have cq2 : ptrOk p = false := by simpa using cq
            have HQ := Aside0.mk ((spec_l02Root.ptr p).trans (by rw [cq2]))
            have CQ := Aside0.mk cq2
            clear cq cq2
            go_wp2_with (first | (go_at_call 162; refine (spec_l02Pointer.calls p false _ HQ.out).mono ?_; rintro e_ w_ ⟨rfl, ⟨nd, rfl⟩⟩))
            go_ret
            refine ⟨?_, by first | exact pw_below_drewN HB.out _ | exact pw_below_drewN (pw_below_drewN HB.out _) _⟩
            have e_ : rootGood a0 = false := rootGood_bad j (by have := C9.out; omega) (by rw [ptrFits, ← HPV.out, CQ.out]; rfl)
            rw [← H.out, e_]; rfl
        · have cj := And.intro cj cj2
          clear cj2
          have hlst : least j = (j : Int) := by rw [least, if_neg cj.1, if_neg cj.2]
          have cj0_ : ((j : Int) == 12) = false := beq_eq_false_iff_ne.mpr (by omega)
          have cj1_ : ((j : Int) == 13) = false := beq_eq_false_iff_ne.mpr (by omega)
          have CJ := Aside0.mk cj
          have HLS := Aside0.mk hlst
          clear cj hlst
          by_cases cq : ptrOk p = true
          · have HQ := Aside0.mk ((spec_l02Root.ptr p).trans (by rw [cq]))
            have CQ := Aside0.mk cq
            clear cq
            by_cases cz : p = 0
            · have cz_ : (p != 0) = false := bne_eq_false_iff_eq.mpr cz
              have CZ := Aside0.mk cz
              clear cz
              go_wp2_with (first | (go_at_call 162; refine (spec_l02Pointer.calls p true _ HQ.out).mono ?_; rintro e_ w_ ⟨rfl, ⟨nd, rfl⟩⟩))
              have hg := Aside0.mk (show ptrFits a0 j = true from spec_l02Root.fits j (by rw [← HPV.out]; exact CQ.out) (.inl (by rw [← HPV.out]; exact CZ.out)))
              go_roundw
              case rel =>
                refine ⟨j + 1, by rw [show wrap64 ((j : Int) + 1) = ((j + 1 : Nat) : Int) by (have := C9.out; unfold wrap64; omega)], ⟨by have := C9.out; omega⟩, ⟨fun i hi => ?_⟩, by repeat (first | exact Drawn0.refl _ | apply Drawn0.step)⟩
                by_cases hij : i = j
                · subst hij; exact hg.out
                · exact hall.out i (by omega)
              case measure =>
                rw [show wrap64 ((j : Int) + 1) = ((j + 1 : Nat) : Int) by (have := C9.out; unfold wrap64; omega)]
                simp only [intOf, Int.toNat_natCast]
                have := C9.out
                omega
            · have cz_ : (p != 0) = true := bne_iff_ne.mpr cz
              have CZ := Aside0.mk cz
              clear cz
              by_cases cb : (s + 512 - 1) / 512 ≤ (j : Int)
              · have cb_ : decide ((s + 512 - 1) / 512 ≤ (j : Int)) = true := decide_eq_true cb
                have CB := Aside0.mk cb
                clear cb
                go_wp2_with (first | (go_at_call 162; refine (spec_l02Pointer.calls p true _ HQ.out).mono ?_; rintro e_ w_ ⟨rfl, ⟨nd, rfl⟩⟩))
                go_ret
                refine ⟨?_, by first | exact pw_below_drewN HB.out _ | exact pw_below_drewN (pw_below_drewN HB.out _) _⟩
                have e_ : rootGood a0 = false := rootGood_bad j (by have := C9.out; omega) (spec_l02Root.unfit j (by rw [← HPV.out]; exact CZ.out) (by rw [HLS.out, ← HS.out]; have := CB.out; omega))
                rw [← H.out, e_]; rfl
              · have cb_ : decide ((s + 512 - 1) / 512 ≤ (j : Int)) = false := decide_eq_false cb
                have CB := Aside0.mk cb
                clear cb
                go_wp2_with (first | (go_at_call 162; refine (spec_l02Pointer.calls p true _ HQ.out).mono ?_; rintro e_ w_ ⟨rfl, ⟨nd, rfl⟩⟩))
                have hg := Aside0.mk (show ptrFits a0 j = true from spec_l02Root.fits j (by rw [← HPV.out]; exact CQ.out) (.inr (by rw [HLS.out, ← HS.out]; have := CB.out; omega)))
                go_roundw
                case rel =>
                  refine ⟨j + 1, by rw [show wrap64 ((j : Int) + 1) = ((j + 1 : Nat) : Int) by (have := C9.out; unfold wrap64; omega)], ⟨by have := C9.out; omega⟩, ⟨fun i hi => ?_⟩, by repeat (first | exact Drawn0.refl _ | apply Drawn0.step)⟩
                  by_cases hij : i = j
                  · subst hij; exact hg.out
                  · exact hall.out i (by omega)
                case measure =>
                  rw [show wrap64 ((j : Int) + 1) = ((j + 1 : Nat) : Int) by (have := C9.out; unfold wrap64; omega)]
                  simp only [intOf, Int.toNat_natCast]
                  have := C9.out
                  omega
          · have cq2 : ptrOk p = false := by simpa using cq
            have HQ := Aside0.mk ((spec_l02Root.ptr p).trans (by rw [cq2]))
            have CQ := Aside0.mk cq2
            clear cq cq2
            go_wp2_with (first | (go_at_call 162; refine (spec_l02Pointer.calls p false _ HQ.out).mono ?_; rintro e_ w_ ⟨rfl, ⟨nd, rfl⟩⟩))
            go_ret
            refine ⟨?_, by first | exact pw_below_drewN HB.out _ | exact pw_below_drewN (pw_below_drewN HB.out _) _⟩
            have e_ : rootGood a0 = false := rootGood_bad j (by have := C9.out; omega) (by rw [ptrFits, ← HPV.out, CQ.out]; rfl)
            rw [← H.out, e_]; rfl
    · obtain rfl : j = 14 := by have := hj.out; omega
      have c9b0 : decide ((14 : Int) < (xs.length : Int)) = false := decide_eq_false (by rw [HXL.out]; decide)
      have c9b1 : decide (14 < xs.length) = false := decide_eq_false (by rw [HXL.out]; decide)
      go_wp2
      go_ret
      refine ⟨?_, pw_below_drewN HB.out _⟩
      rw [← H.out, rootGood_ok (by rw [← HS.out]; exact c1n) (by rw [← HS.out]; exact c2n) hall.out]; rfl
def spec_l02TableSize.f (a0 : Int) : Option (Bool) := if a0 ≥ 256 then (if (Int.tmod a0 128) = 0 then (some (decide (a0 ≤ 128128))) else (some false)) else (some false)
set_option maxHeartbeats 8000000 in
set_option maxRecDepth 100000 in
theorem spec_l02TableSize.calls (a0 : Int) (r : Bool) (w : World) (h : spec_l02TableSize.f a0 = some r) :
    Calls Tryd.prog 135 #[.int .i64 a0] w fun e w' => e = .returned (.bool r) ∧ Drawn0 w w' := by
  have H : (if a0 ≥ 256 then (if (Int.tmod a0 128) = 0 then (some (decide (a0 ≤ 128128))) else (some false)) else (some false)) = some r := h
  clear h
  by_cases c2 : a0 ≥ 256
  · rw [if_pos c2] at H
    have c2b0 : decide (256 ≤ a0) = true := decide_eq_true c2
    clear c2
    by_cases c3 : (Int.tmod a0 128) = 0
    · rw [if_pos c3] at H
      have c3b0 : ((Int.tmod a0 128) == 0) = true := beq_iff_eq.mpr c3
      have c3b1 : ((Int.tmod a0 128) != 0) = false := bne_eq_false_iff_eq.mpr c3
      clear c3
      obtain rfl := Option.some.inj H
      go_enter Tryd.func135, Tryd.ntmps135
      go_wp2
      go_ret
      exact ⟨by first | rfl | (simp; done) | (simp [*]; done), by repeat (first | exact Drawn0.refl _ | apply Drawn0.step)⟩
    · rw [if_neg c3] at H
      have c3b0 : ((Int.tmod a0 128) == 0) = false := beq_eq_false_iff_ne.mpr c3
      have c3b1 : ((Int.tmod a0 128) != 0) = true := bne_iff_ne.mpr c3
      obtain rfl := Option.some.inj H
      go_enter Tryd.func135, Tryd.ntmps135
      go_wp2
      go_ret
      exact ⟨by first | rfl | (simp; done) | (simp [*]; done), by repeat (first | exact Drawn0.refl _ | apply Drawn0.step)⟩
  · rw [if_neg c2] at H
    have c2b0 : decide (256 ≤ a0) = false := decide_eq_false c2
    clear c2
    obtain rfl := Option.some.inj H
    go_enter Tryd.func135, Tryd.ntmps135
    go_wp2
    go_ret
    exact ⟨by first | rfl | (simp; done) | (simp [*]; done), by repeat (first | exact Drawn0.refl _ | apply Drawn0.step)⟩
end Go.Proofs.YtknlpjoidjgciaaDoor.PFnExactSnapshots
