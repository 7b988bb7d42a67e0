/- PFnExactSnapshotsx14: functions of the law, walked; written by a program of this session. No condition. -/
import Derived.Test.YtknlpjoidjgciaaDoorQPFnExactSnapshotsx0
import Derived.Test.YtknlpjoidjgciaaDoorQPFnExactSnapshotsx9
import Derived.Test.YtknlpjoidjgciaaDoorQPFnExactSnapshotsx10
import Derived.Test.YtknlpjoidjgciaaDoorQPFnExactSnapshotsx13
namespace Go.Proofs.YtknlpjoidjgciaaDoor.PFnExactSnapshots
open Go.RowKit Go.Proofs.YtknlpjoidjgciaaDoorW.PrintWords Go.Proofs.YtknlpjoidjgciaaDoorW.PrintLast Go.Proofs.YtknlpjoidjgciaaDoorW.PrintMore
attribute [local go_sem] max2_int min2_int max_two min_two max_three min_three max_four min_four
set_option linter.unusedVariables false
set_option linter.unusedSimpArgs false
open Go.Proofs.YtknlpjoidjgciaaDoorW Go.Proofs.YtknlpjoidjgciaaDoorW.PrintHand Go.Proofs.YtknlpjoidjgciaaDoorW.PrintHx
open Go.Proofs.YtknlpjoidjgciaaDoorW.PrintLe Go.Proofs.YtknlpjoidjgciaaDoorW.PrintGrow Go.Proofs.YtknlpjoidjgciaaDoorW.PrintDec Go.Proofs.YtknlpjoidjgciaaDoorW.PrintIno Go.Proofs.YtknlpjoidjgciaaDoorW.PrintTab2 Go.Proofs.YtknlpjoidjgciaaDoorW.PrintTab3 Go.Proofs.YtknlpjoidjgciaaDoorW.PrintFsi Go.Proofs.YtknlpjoidjgciaaDoorW.PrintFsb Go.Proofs.YtknlpjoidjgciaaDoorW.PrintFsd Go.Proofs.YtknlpjoidjgciaaDoorW.PrintCrc
def impl_Fsinfo.f (l0 : List Int) : Option (List Int × Int) := if (∀ x ∈ l0, 0 ≤ x ∧ x ≤ 255) then some (decF (fsB l0) l0) else none
set_option maxHeartbeats 8000000 in
set_option maxRecDepth 100000 in
theorem impl_Fsinfo.calls (A0 : Option Addr) (c0 : Nat) (l0 : List Int) (r1 : List Int) (r2 : Int) (w : World) (hv : Kd.C (Kd.int .u8) w (some ⟨1, 0, none⟩) 8 magicF) (hr0 : Kd.C (Kd.int .u8) w A0 l0.length l0) (hc0 : l0.length ≤ c0) (h : impl_Fsinfo.f l0 = some (r1, r2)) :
    Calls Tryd.prog 141 #[.slice A0 l0.length c0, .int .i64 512, .func (.func 142) #[] #[], .func (.func 143) #[] #[]] w fun e w' => e = .returned (.tuple #[.agg (nums .i64 r1).toArray, .int .i64 r2]) ∧ Below w.heap.size w w' := by
  unfold impl_Fsinfo.f at h
  by_cases hdom : ∀ x ∈ l0, 0 ≤ x ∧ x ≤ 255
  case neg => rw [if_neg hdom] at h; cases h
  rw [if_pos hdom] at h
  replace h := Option.some.inj h
  have HV := Aside0.mk hv
  have HBY : Aside0 (Byt l0) := ⟨hdom⟩
  have HR0 := Aside0.mk hr0
  have HC0 := Aside0.mk hc0
  clear hdom hr0 hc0
  have Z127 : ∀ w, (zeroValue 127).run Tryd.prog w = .ok (.agg (nums .i64 (List.replicate 68 0)).toArray) w := fun _ => by kernel_rfl
  have NZ := Aside0.mk (show (List.replicate 68 (0 : Int)).length = 68 by simp)
  have HB0 : Aside0 (Below w.heap.size w w) := ⟨Below.refl _ _⟩
  obtain ⟨s0, Sz0⟩ : ∃ s0, Aside0 (w.heap.size = s0) := ⟨_, ⟨rfl⟩⟩
  have hw0 : w.heap.size ≤ s0 := Nat.le_of_eq Sz0.out
  have hw1 : s0 ≤ w.heap.size := Nat.le_of_eq Sz0.out.symm
  by_cases hl : l0.length = 512
  case neg =>
    have hd : decF (fsB l0) l0 = ((List.replicate 68 0), 21) := by unfold decF; rw [if_neg (fun h_ => hl h_.1)]
    rw [hd] at h
    simp only [Prod.mk.injEq] at h
    obtain ⟨rfl, rfl⟩ := h
    clear hd
    have k0 : ((l0.length : Int) != 512) = true := bne_iff_ne.2 (by omega)
    clear hl
    go_enter Tryd.func141, Tryd.ntmps141
    go_wp2_with (first | ((with_reducible refine gate_dst (N := 8) rfl ?_); refine hx_alloc rfl 8 rfl 127 rfl Sz0 (.agg (nums .i64 (List.replicate 68 0)).toArray) (nums .i64 (List.replicate 68 0)).toArray Z127 rfl ?_; intro w1 s1 Ls1 Ss1 b_ g_; have H8 := Aside0.mk g_; have HB1 := Aside0.mk (below_then HB0.out HB0.out.size b_); clear b_ g_ HB0) | ((with_reducible refine gate_dst (N := 10) rfl ?_); refine hx_alloc rfl 10 rfl 127 rfl Ss1 (.agg (nums .i64 (List.replicate 68 0)).toArray) (nums .i64 (List.replicate 68 0)).toArray Z127 rfl ?_; intro w2 s2 Ls2 Ss2 b_ g_; have H10 := Aside0.mk g_; have HB2 := Aside0.mk (below_then HB1.out HB1.out.size b_); have H8_2 := Aside0.mk (blk_below H8.out b_); clear b_ g_ HB1 H8) | ((with_reducible refine gate_dst (N := 18) rfl ?_); refine hx_load rfl 127 (.tmp 10) rfl s1 68 rfl Tryd.underlying127 rfl (by kernel_rfl) H10.out (nums_size _ _ _ NZ.out) ?_) | ((with_reducible refine gate_store (t := 127) (p := 8) (v := .tmp 18) rfl ?_); refine hx_store rfl rfl 127 (.tmp 8) (.tmp 18) rfl s0 68 rfl (nums .i64 (List.replicate 68 0)).toArray rfl (by kernel_rfl) (nums_size _ _ _ NZ.out) (nums_one _ _) H8_2.out (by simp [nums]) ?_; intro we t_ gg_; have HE := Aside0.mk gg_; have HEB := Aside0.mk (t_.below HB2.out (by omega)); clear t_ gg_ H8_2 HB2 ))
    exact bodyPost_ret (results_ct rfl _ _ s0 127 (nums .i64 (List.replicate 68 0)).toArray (0, 0) _ rfl HE.out Tryd.underlying127 rfl (by rw [nums_size _ _ _ NZ.out]; kernel_rfl)) rfl ⟨rfl, HEB.out⟩
  have k0 : ((l0.length : Int) != 512) = false := by rw [hl]; rfl
  have EF := Aside0.mk (show impl_getFsinfo.f l0 = some (fsB l0) from if_pos ⟨hl, HBY.out⟩)
  obtain ⟨ra, hra⟩ : ∃ a, a = fsB l0 := ⟨_, rfl⟩
  have NL := Aside0.mk (show ra.length = 68 by rw [hra]; exact fsB_length l0)
  rw [← hra] at EF h
  have HL := Aside0.mk hl
  clear hra hl
  by_cases hg : fsGood ra = true
  case neg =>
    have hd : decF ra l0 = ((List.replicate 68 0), 21) := by unfold decF; rw [if_neg (fun h_ => hg h_.2.1)]
    rw [hd] at h
    simp only [Prod.mk.injEq] at h
    obtain ⟨rfl, rfl⟩ := h
    clear hd
    have ER := Aside0.mk (show impl_EncodeFsinfo.f ra = some ([], 7) by unfold impl_EncodeFsinfo.f; rw [if_neg hg])
    clear hg
    go_enter Tryd.func141, Tryd.ntmps141
    go_wp2_with (first | ((with_reducible refine gate_dst (N := 8) rfl ?_); refine hx_alloc rfl 8 rfl 127 rfl Sz0 (.agg (nums .i64 (List.replicate 68 0)).toArray) (nums .i64 (List.replicate 68 0)).toArray Z127 rfl ?_; intro w1 s1 Ls1 Ss1 b_ g_; have H8 := Aside0.mk g_; have HB1 := Aside0.mk (below_then HB0.out HB0.out.size b_); clear b_ g_ HB0) | ((with_reducible refine gate_dst (N := 10) rfl ?_); refine hx_alloc rfl 10 rfl 127 rfl Ss1 (.agg (nums .i64 (List.replicate 68 0)).toArray) (nums .i64 (List.replicate 68 0)).toArray Z127 rfl ?_; intro w2 s2 Ls2 Ss2 b_ g_; have H10 := Aside0.mk g_; have HB2 := Aside0.mk (below_then HB1.out HB1.out.size b_); have H8_2 := Aside0.mk (blk_below H8.out b_); clear b_ g_ HB1 H8) | ((with_reducible refine gate_dst (N := 21) rfl ?_); refine goesV_ (some 21) rfl rfl Tryd.func142 (by kernel_rfl) rfl #[.slice A0 l0.length c0] rfl rfl (by (try simp only [List.map_toArray, List.map_cons, List.map_nil]); first | done | rfl) ?_; refine (impl_getFsinfo.calls A0 c0 l0 ra _ (Kd.C_below HR0.out HB2.out) HC0.out EF.out).mono ?_; rintro e_ w3 ⟨rfl, b_⟩; refine ⟨_, rfl, ?_⟩; have HB3 := Aside0.mk (below_then HB2.out HB2.out.size b_); have H8_3 := Aside0.mk (blk_below H8_2.out b_); have H10_3 := Aside0.mk (blk_below H10.out b_); have hz_ := blk_lt H10_3.out; have hy_ := blk_lt H8_3.out; obtain ⟨s3, Ss3⟩ : ∃ s, Aside0 (w3.heap.size = s) := ⟨_, ⟨rfl⟩⟩; rw [Ss3.out] at hz_ hy_; clear b_ H8_2 H10 HB2) | ((with_reducible refine gate_dst (N := 11) rfl ?_); refine hx_alloc rfl 11 rfl 127 rfl Ss3 (.agg (nums .i64 (List.replicate 68 0)).toArray) (nums .i64 (List.replicate 68 0)).toArray Z127 rfl ?_; intro w4 s4 Ls4 Ss4 b_ g_; have HG4 := Aside0.mk g_; have HB4 := Aside0.mk (below_then HB3.out HB3.out.size b_); have H8_4 := Aside0.mk (blk_below H8_3.out b_); have H10_4 := Aside0.mk (blk_below H10_3.out b_); clear b_ g_ HB3 H8_3 H10_3) | ((with_reducible refine gate_store (t := 127) (p := 11) (v := .tmp 21) rfl ?_); refine hx_store rfl rfl 127 (.tmp 11) (.tmp 21) rfl s3 68 rfl (nums .i64 ra).toArray rfl (by kernel_rfl) (nums_size _ _ _ NL.out) (nums_one _ _) HG4.out (by simp [nums]) ?_; intro w5 t_ gg_; have HG5 := Aside0.mk gg_; have H8_5 := Aside0.mk (t_.keep (show s0 ≠ s3 by omega) H8_4.out); have H10_5 := Aside0.mk (t_.keep (show s1 ≠ s3 by omega) H10_4.out); have HB5 := Aside0.mk (t_.below HB4.out (by omega)); clear t_ gg_ HG4 HB4 H8_4 H10_4) | ((with_reducible refine gate_dst (N := 24) rfl ?_); refine hx_load rfl 127 (.tmp 11) rfl s3 68 rfl Tryd.underlying127 rfl (by kernel_rfl) HG5.out (nums_size _ _ _ NL.out) ?_) | ((with_reducible refine gate_dst (N := 25) rfl ?_); refine goesV_ (some 25) rfl rfl Tryd.func143 (by kernel_rfl) rfl #[.agg (nums .i64 ra).toArray] rfl rfl (by (try simp only [List.map_toArray, List.map_cons, List.map_nil]); first | done | rfl) ?_; refine (impl_EncodeFsinfo.calls ra NL.out [] 7 _ (Kd.C_below HV.out HB5.out) ER.out).mono ?_; rintro e_ w6 ⟨v0_, rfl, R_, b_⟩; refine ⟨_, rfl, ?_⟩; have HG6 := Aside0.mk (blk_below HG5.out b_); have H8_6 := Aside0.mk (blk_below H8_5.out b_); have H10_6 := Aside0.mk (blk_below H10_5.out b_); have HB6 := Aside0.mk (below_then HB5.out HB5.out.size b_); clear b_ R_ HG5 H8_5 H10_5 HB5) | ((with_reducible refine gate_dst (N := 36) rfl ?_); refine hx_load rfl 127 (.tmp 10) rfl s1 68 rfl Tryd.underlying127 rfl (by kernel_rfl) H10_6.out (nums_size _ _ _ NZ.out) ?_) | ((with_reducible refine gate_store (t := 127) (p := 8) (v := .tmp 36) rfl ?_); refine hx_store rfl rfl 127 (.tmp 8) (.tmp 36) rfl s0 68 rfl (nums .i64 (List.replicate 68 0)).toArray rfl (by kernel_rfl) (nums_size _ _ _ NZ.out) (nums_one _ _) H8_6.out (by simp [nums]) ?_; intro we t_ gg_; have HE := Aside0.mk gg_; have HEB := Aside0.mk (t_.below HB6.out (by omega)); clear t_ gg_ H8_6 HB6 ))
    exact bodyPost_ret (results_ct rfl _ _ s0 127 (nums .i64 (List.replicate 68 0)).toArray (0, 0) _ rfl HE.out Tryd.underlying127 rfl (by rw [nums_size _ _ _ NZ.out]; kernel_rfl)) rfl ⟨rfl, HEB.out⟩
  have ER := Aside0.mk (show impl_EncodeFsinfo.f ra = some (fsBytes ra, 0) by unfold impl_EncodeFsinfo.f; rw [if_pos hg]; rfl)
  have hs0 : ((strOfNums (fsBytes ra)).toList == (strOfNums l0).toList) = decide (fsBytes ra = l0) := strOf_eq (fsBytes_byt ra) HBY.out
  by_cases he : fsBytes ra = l0
  case neg =>
    have hd : decF ra l0 = ((List.replicate 68 0), 21) := by unfold decF; rw [if_neg (fun h_ => he h_.2.2)]
    rw [hd] at h
    simp only [Prod.mk.injEq] at h
    obtain ⟨rfl, rfl⟩ := h
    clear hd
    rw [decide_eq_false he] at hs0
    clear hg he
    obtain ⟨rb, hrb⟩ : ∃ b, b = fsBytes ra := ⟨_, rfl⟩
    rw [← hrb] at ER hs0
    clear hrb
    have EQ := Aside0.mk (show bytes_Equal.f rb l0 = some false by unfold bytes_Equal.f; rw [hs0])
    clear hs0
    go_enter Tryd.func141, Tryd.ntmps141
    go_wp2_with (first | ((with_reducible refine gate_dst (N := 8) rfl ?_); refine hx_alloc rfl 8 rfl 127 rfl Sz0 (.agg (nums .i64 (List.replicate 68 0)).toArray) (nums .i64 (List.replicate 68 0)).toArray Z127 rfl ?_; intro w1 s1 Ls1 Ss1 b_ g_; have H8 := Aside0.mk g_; have HB1 := Aside0.mk (below_then HB0.out HB0.out.size b_); clear b_ g_ HB0) | ((with_reducible refine gate_dst (N := 10) rfl ?_); refine hx_alloc rfl 10 rfl 127 rfl Ss1 (.agg (nums .i64 (List.replicate 68 0)).toArray) (nums .i64 (List.replicate 68 0)).toArray Z127 rfl ?_; intro w2 s2 Ls2 Ss2 b_ g_; have H10 := Aside0.mk g_; have HB2 := Aside0.mk (below_then HB1.out HB1.out.size b_); have H8_2 := Aside0.mk (blk_below H8.out b_); clear b_ g_ HB1 H8) | ((with_reducible refine gate_dst (N := 21) rfl ?_); refine goesV_ (some 21) rfl rfl Tryd.func142 (by kernel_rfl) rfl #[.slice A0 l0.length c0] rfl rfl (by (try simp only [List.map_toArray, List.map_cons, List.map_nil]); first | done | rfl) ?_; refine (impl_getFsinfo.calls A0 c0 l0 ra _ (Kd.C_below HR0.out HB2.out) HC0.out EF.out).mono ?_; rintro e_ w3 ⟨rfl, b_⟩; refine ⟨_, rfl, ?_⟩; have HB3 := Aside0.mk (below_then HB2.out HB2.out.size b_); have H8_3 := Aside0.mk (blk_below H8_2.out b_); have H10_3 := Aside0.mk (blk_below H10.out b_); have hz_ := blk_lt H10_3.out; have hy_ := blk_lt H8_3.out; obtain ⟨s3, Ss3⟩ : ∃ s, Aside0 (w3.heap.size = s) := ⟨_, ⟨rfl⟩⟩; rw [Ss3.out] at hz_ hy_; clear b_ H8_2 H10 HB2) | ((with_reducible refine gate_dst (N := 11) rfl ?_); refine hx_alloc rfl 11 rfl 127 rfl Ss3 (.agg (nums .i64 (List.replicate 68 0)).toArray) (nums .i64 (List.replicate 68 0)).toArray Z127 rfl ?_; intro w4 s4 Ls4 Ss4 b_ g_; have HG4 := Aside0.mk g_; have HB4 := Aside0.mk (below_then HB3.out HB3.out.size b_); have H8_4 := Aside0.mk (blk_below H8_3.out b_); have H10_4 := Aside0.mk (blk_below H10_3.out b_); clear b_ g_ HB3 H8_3 H10_3) | ((with_reducible refine gate_store (t := 127) (p := 11) (v := .tmp 21) rfl ?_); refine hx_store rfl rfl 127 (.tmp 11) (.tmp 21) rfl s3 68 rfl (nums .i64 ra).toArray rfl (by kernel_rfl) (nums_size _ _ _ NL.out) (nums_one _ _) HG4.out (by simp [nums]) ?_; intro w5 t_ gg_; have HG5 := Aside0.mk gg_; have H8_5 := Aside0.mk (t_.keep (show s0 ≠ s3 by omega) H8_4.out); have H10_5 := Aside0.mk (t_.keep (show s1 ≠ s3 by omega) H10_4.out); have HB5 := Aside0.mk (t_.below HB4.out (by omega)); clear t_ gg_ HG4 HB4 H8_4 H10_4) | ((with_reducible refine gate_dst (N := 24) rfl ?_); refine hx_load rfl 127 (.tmp 11) rfl s3 68 rfl Tryd.underlying127 rfl (by kernel_rfl) HG5.out (nums_size _ _ _ NL.out) ?_) | ((with_reducible refine gate_dst (N := 25) rfl ?_); refine goesV_ (some 25) rfl rfl Tryd.func143 (by kernel_rfl) rfl #[.agg (nums .i64 ra).toArray] rfl rfl (by (try simp only [List.map_toArray, List.map_cons, List.map_nil]); first | done | rfl) ?_; refine (impl_EncodeFsinfo.calls ra NL.out rb 0 _ (Kd.C_below HV.out HB5.out) ER.out).mono ?_; rintro e_ w6 ⟨v0_, rfl, R_, b_⟩; obtain ⟨Ab, cb, rfl⟩ := Kd.R_slice R_; refine ⟨_, rfl, ?_⟩; have HG6 := Aside0.mk (blk_below HG5.out b_); have H8_6 := Aside0.mk (blk_below H8_5.out b_); have H10_6 := Aside0.mk (blk_below H10_5.out b_); have HB6 := Aside0.mk (below_then HB5.out HB5.out.size b_); have RR := Aside0.mk (Kd.R_reads' R_); clear b_ R_ HG5 H8_5 H10_5 HB5) | (go_at_call 164; (with_reducible refine (bytes_Equal.calls Ab cb rb A0 c0 l0 false _ RR.out.2.2 RR.out.2.1 (Kd.C_below HR0.out HB6.out) HC0.out EQ.out).mono ?_); rintro e_ w7 ⟨rfl, d_⟩; have b_ := kept_drawn d_; have HG7 := Aside0.mk (blk_below HG6.out b_); have H8_7 := Aside0.mk (blk_below H8_6.out b_); have H10_7 := Aside0.mk (blk_below H10_6.out b_); have HB7 := Aside0.mk (below_then HB6.out HB6.out.size b_); clear b_ d_ HG6 H8_6 H10_6 HB6) | ((with_reducible refine gate_dst (N := 36) rfl ?_); refine hx_load rfl 127 (.tmp 10) rfl s1 68 rfl Tryd.underlying127 rfl (by kernel_rfl) H10_7.out (nums_size _ _ _ NZ.out) ?_) | ((with_reducible refine gate_store (t := 127) (p := 8) (v := .tmp 36) rfl ?_); refine hx_store rfl rfl 127 (.tmp 8) (.tmp 36) rfl s0 68 rfl (nums .i64 (List.replicate 68 0)).toArray rfl (by kernel_rfl) (nums_size _ _ _ NZ.out) (nums_one _ _) H8_7.out (by simp [nums]) ?_; intro we t_ gg_; have HE := Aside0.mk gg_; have HEB := Aside0.mk (t_.below HB7.out (by omega)); clear t_ gg_ H8_7 HB7 ))
    exact bodyPost_ret (results_ct rfl _ _ s0 127 (nums .i64 (List.replicate 68 0)).toArray (0, 0) _ rfl HE.out Tryd.underlying127 rfl (by rw [nums_size _ _ _ NZ.out]; kernel_rfl)) rfl ⟨rfl, HEB.out⟩
  have hd : decF ra l0 = (ra, 0) := by unfold decF; rw [if_pos ⟨HL.out, hg, he⟩]
  rw [hd] at h
  simp only [Prod.mk.injEq] at h
  obtain ⟨rfl, rfl⟩ := h
  rw [decide_eq_true he] at hs0
  clear hd
  clear hg he
  obtain ⟨rb, hrb⟩ : ∃ b, b = fsBytes ra := ⟨_, rfl⟩
  rw [← hrb] at ER hs0
  clear hrb
  have EQ := Aside0.mk (show bytes_Equal.f rb l0 = some true by unfold bytes_Equal.f; rw [hs0])
  clear hs0
  go_enter Tryd.func141, Tryd.ntmps141
  go_wp2_with (first | ((with_reducible refine gate_dst (N := 8) rfl ?_); refine hx_alloc rfl 8 rfl 127 rfl Sz0 (.agg (nums .i64 (List.replicate 68 0)).toArray) (nums .i64 (List.replicate 68 0)).toArray Z127 rfl ?_; intro w1 s1 Ls1 Ss1 b_ g_; have H8 := Aside0.mk g_; have HB1 := Aside0.mk (below_then HB0.out HB0.out.size b_); clear b_ g_ HB0) | ((with_reducible refine gate_dst (N := 10) rfl ?_); refine hx_alloc rfl 10 rfl 127 rfl Ss1 (.agg (nums .i64 (List.replicate 68 0)).toArray) (nums .i64 (List.replicate 68 0)).toArray Z127 rfl ?_; intro w2 s2 Ls2 Ss2 b_ g_; have H10 := Aside0.mk g_; have HB2 := Aside0.mk (below_then HB1.out HB1.out.size b_); have H8_2 := Aside0.mk (blk_below H8.out b_); clear b_ g_ HB1 H8) | ((with_reducible refine gate_dst (N := 21) rfl ?_); refine goesV_ (some 21) rfl rfl Tryd.func142 (by kernel_rfl) rfl #[.slice A0 l0.length c0] rfl rfl (by (try simp only [List.map_toArray, List.map_cons, List.map_nil]); first | done | rfl) ?_; refine (impl_getFsinfo.calls A0 c0 l0 ra _ (Kd.C_below HR0.out HB2.out) HC0.out EF.out).mono ?_; rintro e_ w3 ⟨rfl, b_⟩; refine ⟨_, rfl, ?_⟩; have HB3 := Aside0.mk (below_then HB2.out HB2.out.size b_); have H8_3 := Aside0.mk (blk_below H8_2.out b_); have H10_3 := Aside0.mk (blk_below H10.out b_); have hz_ := blk_lt H10_3.out; have hy_ := blk_lt H8_3.out; obtain ⟨s3, Ss3⟩ : ∃ s, Aside0 (w3.heap.size = s) := ⟨_, ⟨rfl⟩⟩; rw [Ss3.out] at hz_ hy_; clear b_ H8_2 H10 HB2) | ((with_reducible refine gate_dst (N := 11) rfl ?_); refine hx_alloc rfl 11 rfl 127 rfl Ss3 (.agg (nums .i64 (List.replicate 68 0)).toArray) (nums .i64 (List.replicate 68 0)).toArray Z127 rfl ?_; intro w4 s4 Ls4 Ss4 b_ g_; have HG4 := Aside0.mk g_; have HB4 := Aside0.mk (below_then HB3.out HB3.out.size b_); have H8_4 := Aside0.mk (blk_below H8_3.out b_); have H10_4 := Aside0.mk (blk_below H10_3.out b_); clear b_ g_ HB3 H8_3 H10_3) | ((with_reducible refine gate_store (t := 127) (p := 11) (v := .tmp 21) rfl ?_); refine hx_store rfl rfl 127 (.tmp 11) (.tmp 21) rfl s3 68 rfl (nums .i64 ra).toArray rfl (by kernel_rfl) (nums_size _ _ _ NL.out) (nums_one _ _) HG4.out (by simp [nums]) ?_; intro w5 t_ gg_; have HG5 := Aside0.mk gg_; have H8_5 := Aside0.mk (t_.keep (show s0 ≠ s3 by omega) H8_4.out); have H10_5 := Aside0.mk (t_.keep (show s1 ≠ s3 by omega) H10_4.out); have HB5 := Aside0.mk (t_.below HB4.out (by omega)); clear t_ gg_ HG4 HB4 H8_4 H10_4) | ((with_reducible refine gate_dst (N := 24) rfl ?_); refine hx_load rfl 127 (.tmp 11) rfl s3 68 rfl Tryd.underlying127 rfl (by kernel_rfl) HG5.out (nums_size _ _ _ NL.out) ?_) | ((with_reducible refine gate_dst (N := 25) rfl ?_); refine goesV_ (some 25) rfl rfl Tryd.func143 (by kernel_rfl) rfl #[.agg (nums .i64 ra).toArray] rfl rfl (by (try simp only [List.map_toArray, List.map_cons, List.map_nil]); first | done | rfl) ?_; refine (impl_EncodeFsinfo.calls ra NL.out rb 0 _ (Kd.C_below HV.out HB5.out) ER.out).mono ?_; rintro e_ w6 ⟨v0_, rfl, R_, b_⟩; obtain ⟨Ab, cb, rfl⟩ := Kd.R_slice R_; refine ⟨_, rfl, ?_⟩; have HG6 := Aside0.mk (blk_below HG5.out b_); have H8_6 := Aside0.mk (blk_below H8_5.out b_); have H10_6 := Aside0.mk (blk_below H10_5.out b_); have HB6 := Aside0.mk (below_then HB5.out HB5.out.size b_); have RR := Aside0.mk (Kd.R_reads' R_); clear b_ R_ HG5 H8_5 H10_5 HB5) | (go_at_call 164; (with_reducible refine (bytes_Equal.calls Ab cb rb A0 c0 l0 true _ RR.out.2.2 RR.out.2.1 (Kd.C_below HR0.out HB6.out) HC0.out EQ.out).mono ?_); rintro e_ w7 ⟨rfl, d_⟩; have b_ := kept_drawn d_; have HG7 := Aside0.mk (blk_below HG6.out b_); have H8_7 := Aside0.mk (blk_below H8_6.out b_); have H10_7 := Aside0.mk (blk_below H10_6.out b_); have HB7 := Aside0.mk (below_then HB6.out HB6.out.size b_); clear b_ d_ HG6 H8_6 H10_6 HB6) | ((with_reducible refine gate_dst (N := 37) rfl ?_); refine hx_load rfl 127 (.tmp 11) rfl s3 68 rfl Tryd.underlying127 rfl (by kernel_rfl) HG7.out (nums_size _ _ _ NL.out) ?_) | ((with_reducible refine gate_store (t := 127) (p := 8) (v := .tmp 37) rfl ?_); refine hx_store rfl rfl 127 (.tmp 8) (.tmp 37) rfl s0 68 rfl (nums .i64 ra).toArray rfl (by kernel_rfl) (nums_size _ _ _ NL.out) (nums_one _ _) H8_7.out (by simp [nums]) ?_; intro we t_ gg_; have HE := Aside0.mk gg_; have HEB := Aside0.mk (t_.below HB7.out (by omega)); clear t_ gg_ H8_7 HB7 ))
  exact bodyPost_ret (results_ct rfl _ _ s0 127 (nums .i64 ra).toArray (0, 0) _ rfl HE.out Tryd.underlying127 rfl (by rw [nums_size _ _ _ NL.out]; kernel_rfl)) rfl ⟨rfl, HEB.out⟩
open Go.Proofs.YtknlpjoidjgciaaDoorW Go.Proofs.YtknlpjoidjgciaaDoorW.PrintHand Go.Proofs.YtknlpjoidjgciaaDoorW.PrintHx
open Go.Proofs.YtknlpjoidjgciaaDoorW.PrintLe Go.Proofs.YtknlpjoidjgciaaDoorW.PrintGrow Go.Proofs.YtknlpjoidjgciaaDoorW.PrintDec Go.Proofs.YtknlpjoidjgciaaDoorW.PrintIno Go.Proofs.YtknlpjoidjgciaaDoorW.PrintTab2 Go.Proofs.YtknlpjoidjgciaaDoorW.PrintTab3 Go.Proofs.YtknlpjoidjgciaaDoorW.PrintFsi Go.Proofs.YtknlpjoidjgciaaDoorW.PrintFsb Go.Proofs.YtknlpjoidjgciaaDoorW.PrintFsd Go.Proofs.YtknlpjoidjgciaaDoorW.PrintCrc
def impl_DecodeFsinfo.f (l0 : List Int) : Option (List Int × Int) := if (∀ x ∈ l0, 0 ≤ x ∧ x ≤ 255) then some (decF (fsB l0) l0) else none
set_option maxHeartbeats 8000000 in
set_option maxRecDepth 100000 in
theorem impl_DecodeFsinfo.calls (A0 : Option Addr) (c0 : Nat) (l0 : List Int) (r1 : List Int) (r2 : Int) (w : World) (hv : Kd.C (Kd.int .u8) w (some ⟨1, 0, none⟩) 8 magicF) (hr0 : Kd.C (Kd.int .u8) w A0 l0.length l0) (hc0 : l0.length ≤ c0) (h : impl_DecodeFsinfo.f l0 = some (r1, r2)) :
    Calls Tryd.prog 111 #[.slice A0 l0.length c0] w fun e w' => e = .returned (.tuple #[.agg (nums .i64 r1).toArray, .int .i64 r2]) ∧ Below w.heap.size w w' := by
  have hw_ : r1.length = 68 := by
    unfold impl_DecodeFsinfo.f at h
    split at h
    · obtain rfl := congrArg Prod.fst (Option.some.inj h)
      unfold decF
      split
      · exact (show (fsB l0).length = 68 from fsB_length l0)
      · simp
    · cases h
  have HD := Aside0.mk (show impl_Fsinfo.f l0 = some (r1, r2) from h)
  have NL := Aside0.mk hw_
  have HV := Aside0.mk hv
  have HR0 := Aside0.mk hr0
  have HC0 := Aside0.mk hc0
  clear h hw_ hr0 hc0
  have Z127 : ∀ w, (zeroValue 127).run Tryd.prog w = .ok (.agg (nums .i64 (List.replicate 68 0)).toArray) w := fun _ => by kernel_rfl
  have HB0 : Aside0 (Below w.heap.size w w) := ⟨Below.refl _ _⟩
  obtain ⟨s0, Sz0⟩ : ∃ s0, Aside0 (w.heap.size = s0) := ⟨_, ⟨rfl⟩⟩
  have hw0 : w.heap.size ≤ s0 := Nat.le_of_eq Sz0.out
  have hw1 : s0 ≤ w.heap.size := Nat.le_of_eq Sz0.out.symm
  go_enter Tryd.func111, Tryd.ntmps111
  go_wp2_with (first | ((with_reducible refine gate_dst (N := 2) rfl ?_); refine hx_alloc rfl 2 rfl 127 rfl Sz0 (.agg (nums .i64 (List.replicate 68 0)).toArray) (nums .i64 (List.replicate 68 0)).toArray Z127 rfl ?_; intro w1 s1 Ls1 Ss1 b_ g_; have H2 := Aside0.mk g_; have HB1 := Aside0.mk (below_then HB0.out HB0.out.size b_); clear b_ g_ HB0) | ((with_reducible refine gate_dst (N := 5) rfl ?_); refine goesL_ (some 5) rfl rfl Tryd.func141 (by kernel_rfl) rfl #[.slice A0 l0.length c0, .int .i64 512, .func (.func 142) #[] #[], .func (.func 143) #[] #[]] rfl (by (try simp only [List.map_toArray, List.map_cons, List.map_nil]); first | done | rfl) ?_; refine (impl_Fsinfo.calls A0 c0 l0 r1 r2 _ (Kd.C_below HV.out HB1.out) (Kd.C_below HR0.out HB1.out) HC0.out HD.out).mono ?_; rintro e_ w2 ⟨rfl, b_⟩; refine ⟨_, rfl, ?_⟩; have HB2 := Aside0.mk (below_then HB1.out HB1.out.size b_); have H2_2 := Aside0.mk (blk_below H2.out b_); clear b_ H2 HB1) | ((with_reducible refine gate_store (t := 127) (p := 2) (v := .tmp 6) rfl ?_); refine hx_store rfl rfl 127 (.tmp 2) (.tmp 6) rfl s0 68 rfl (nums .i64 r1).toArray rfl (by kernel_rfl) (nums_size _ _ _ NL.out) (nums_one _ _) H2_2.out (by simp [nums]) ?_; intro we t_ gg_; have HE := Aside0.mk gg_; have HEB := Aside0.mk (t_.below HB2.out (by omega)); clear t_ gg_ H2_2 HB2 ))
  exact bodyPost_ret (results_ct rfl _ _ s0 127 (nums .i64 r1).toArray (0, 0) _ rfl HE.out Tryd.underlying127 rfl (by rw [nums_size _ _ _ NL.out]; kernel_rfl)) rfl ⟨rfl, HEB.out⟩
open Go.Proofs.YtknlpjoidjgciaaDoorW Go.Proofs.YtknlpjoidjgciaaDoorW.PrintHand Go.Proofs.YtknlpjoidjgciaaDoorW.PrintHx
open Go.Proofs.YtknlpjoidjgciaaDoorW.PrintLe Go.Proofs.YtknlpjoidjgciaaDoorW.PrintGrow Go.Proofs.YtknlpjoidjgciaaDoorW.PrintDec Go.Proofs.YtknlpjoidjgciaaDoorW.PrintIno Go.Proofs.YtknlpjoidjgciaaDoorW.PrintTab2 Go.Proofs.YtknlpjoidjgciaaDoorW.PrintTab3 Go.Proofs.YtknlpjoidjgciaaDoorW.PrintFsi Go.Proofs.YtknlpjoidjgciaaDoorW.PrintFsb Go.Proofs.YtknlpjoidjgciaaDoorW.PrintFsd Go.Proofs.YtknlpjoidjgciaaDoorW.PrintCrc Go.Proofs.YtknlpjoidjgciaaDoorW.PrintChs
def impl_openVolume.at (f : Bool) (s : Int) : Int := match f with | true => s | false => -1
theorem impl_rightSize.size (l : List Int) (h : l.length ≤ 1048576) : impl_rightSize.f (l.length : Int) = some (decide (sizeN l ≠ 0)) := by
  unfold impl_rightSize.f sizeN
  have e1 : wrap64 (Int.tdiv (l.length : Int) 512) = ((l.length / 512 : Nat) : Int) := by rw [show Int.tdiv (l.length : Int) 512 = ((l.length / 512 : Nat) : Int) from rfl]; unfold wrap64; omega
  have e2 : Int.tmod (l.length : Int) 512 = ((l.length % 512 : Nat) : Int) := rfl
  rw [e1, e2]
  by_cases c : l.length % 512 = 0 ∧ 64 ≤ l.length / 512 ∧ l.length / 512 ≤ 2048
  · rw [if_pos c, if_pos (by omega), if_pos (by omega), decide_eq_true (by omega), decide_eq_true (by omega)]
  · rw [if_neg c]
    repeat' split
    all_goals first | (simp; omega) | (simp; done)
set_option maxHeartbeats 8000000 in
set_option maxRecDepth 100000 in
theorem impl_openVolume.calls (A0 : Option Addr) (c0 : Nat) (l0 : List Int) (r1 : List Int) (r2 r3 : Int) (w : World) (hv : Kd.C (Kd.int .u8) w (some ⟨1, 0, none⟩) 8 magicF) (hr0 : Kd.C (Kd.int .u8) w A0 l0.length l0) (hc0 : l0.length ≤ c0) (hl : l0.length ≤ 1048576) (hby : ∀ x ∈ l0, 0 ≤ x ∧ x ≤ 255) (h : chooseF (decB l0) l0 = (r1, r2, r3)) :
    Calls Tryd.prog 81 #[.slice A0 l0.length c0] w fun e w' => ((r3 = 0 ∧ r1.length = 68 ∧ ∃ g, e = .returned (.tuple #[.pointer (some ⟨g, 0, none⟩), .nilIface]) ∧ w'.heap[g]? = some (.cells (volC A0 l0.length c0 r1 r2).toArray 184 (0, 0)) ∧ w.heap.size ≤ g) ∨ (r3 ≠ 0 ∧ r1 = List.replicate 68 0 ∧ r2 = 0 ∧ e = .returned (.tuple #[.pointer none, .iface 152 (.int .i64 r3)]))) ∧ Below w.heap.size w w' := by
  have HV := Aside0.mk hv
  have HR0 := Aside0.mk hr0
  have HC0 := Aside0.mk hc0
  have HBY : Aside0 (Byt l0) := ⟨hby⟩
  have HLM := Aside0.mk hl
  obtain ⟨nb, hnb⟩ : ∃ n, n = sizeN l0 := ⟨_, rfl⟩
  have EB := Aside0.mk (show impl_rightSize.f (l0.length : Int) = some (decide (nb ≠ 0)) by rw [hnb]; exact impl_rightSize.size l0 hl)
  have Z127 : ∀ w, (zeroValue 127).run Tryd.prog w = .ok (.agg (nums .i64 (List.replicate 68 0)).toArray) w := fun _ => by kernel_rfl
  have NZ := Aside0.mk (show (List.replicate 68 (0 : Int)).length = 68 by simp)
  have BU_ := Aside0.mk (show ∀ w, (Instr.build 184 #[(0, .slice A0 l0.length c0), (2, .int .i64 (-1))]).run Tryd.prog w = .ok (.agg (volC A0 l0.length c0 (List.replicate 68 0) (-1)).toArray) w from fun w => run_build w 184 _ _ (by kernel_rfl))
  unfold chooseF at h
  rw [← hnb] at h
  clear hv hr0 hc0 hby hl
  have HB0 : Aside0 (Below w.heap.size w w) := ⟨Below.refl _ _⟩
  obtain ⟨s0, Sz0⟩ : ∃ s0, Aside0 (w.heap.size = s0) := ⟨_, ⟨rfl⟩⟩
  have hw0 : w.heap.size ≤ s0 := Nat.le_of_eq Sz0.out
  have hw1 : s0 ≤ w.heap.size := Nat.le_of_eq Sz0.out.symm
  by_cases hz : nb = 0
  case pos =>
    rw [if_pos hz] at h
    simp only [Prod.mk.injEq] at h
    obtain ⟨rfl, rfl, rfl⟩ := h
    have e_ := EB.out
    rw [decide_eq_false (show ¬ nb ≠ 0 from fun h_ => h_ hz)] at e_
    clear EB
    have EB := Aside0.mk e_
    clear hz hnb e_
    go_enter Tryd.func81, Tryd.ntmps81
    go_wp2_with (first | ((with_reducible refine gate_dst (N := 10) rfl ?_); refine goesL_ (some 10) rfl rfl Tryd.func69 (by kernel_rfl) rfl #[.int .i64 (l0.length : Int)] rfl (by (try simp only [List.map_toArray, List.map_cons, List.map_nil]); first | done | rfl) ?_; refine (impl_rightSize.calls (l0.length : Int) false _ EB.out).mono ?_; rintro e_ w1 ⟨rfl, d_⟩; refine ⟨_, rfl, ?_⟩; have b_ := kept_drawn d_; have HB1 := Aside0.mk (below_then HB0.out HB0.out.size b_); obtain ⟨s1, L1, Sz1⟩ := size_letter Sz0 (kept_below b_); clear b_ d_ HB0))
    go_ret2
    first | exact ⟨.inr ⟨by decide, rfl, rfl, rfl⟩, HB1.out⟩ | exact ⟨rfl, HB1.out⟩ | exact ⟨.inr ⟨by decide, rfl⟩, HB1.out⟩ | (refine ⟨?_, HB1.out⟩; simp; done)
  rw [if_neg hz] at h
  have HSZ := Aside0.mk (show nb = ((l0.length / 512 : Nat) : Int) ∧ l0.length % 512 = 0 ∧ 64 ≤ l0.length / 512 ∧ l0.length / 512 ≤ 2048 by have h_ := sizeN_pos (l := l0) (by rw [← hnb]; exact hz); rw [← hnb] at h_; exact h_)
  have e_ := EB.out
  rw [decide_eq_true hz] at e_
  clear EB
  have EB := Aside0.mk e_
  have H := Aside0.mk h
  clear hz hnb h e_
  go_enter Tryd.func81, Tryd.ntmps81
  go_wp2_with (first | ((with_reducible refine gate_dst (N := 10) rfl ?_); refine goesL_ (some 10) rfl rfl Tryd.func69 (by kernel_rfl) rfl #[.int .i64 (l0.length : Int)] rfl (by (try simp only [List.map_toArray, List.map_cons, List.map_nil]); first | done | rfl) ?_; refine (impl_rightSize.calls (l0.length : Int) true _ EB.out).mono ?_; rintro e_ w1 ⟨rfl, d_⟩; refine ⟨_, rfl, ?_⟩; have b_ := kept_drawn d_; have HB1 := Aside0.mk (below_then HB0.out HB0.out.size b_); obtain ⟨s1, L1, Sz1⟩ := size_letter Sz0 (kept_below b_); clear b_ d_ HB0) | ((with_reducible refine gate_dst (N := 14) rfl ?_); refine hx_build rfl 184 _ rfl #[(0, .slice A0 l0.length c0), (2, .int .i64 (-1))] rfl (.agg (volC A0 l0.length c0 (List.replicate 68 0) (-1)).toArray) BU_.out ?_) | ((with_reducible refine gate_dst (N := 15) rfl ?_); refine hx_box rfl 15 rfl 184 (.tmp 14) rfl Sz1 (.agg (volC A0 l0.length c0 (List.replicate 68 0) (-1)).toArray) (volC A0 l0.length c0 (List.replicate 68 0) (-1)).toArray rfl (by simp [Value.cells]) ?_; intro w2 s2 L2 Sz2 b_ g_; have HG2 := Aside0.mk g_; have HB2 := Aside0.mk (below_then HB1.out HB1.out.size b_); clear g_ b_ HB1))
  (try simp only [Act.put, List.setIfInBounds_toArray, List.set_cons_succ, List.set_cons_zero])
  go_loopw [5, 6, 7, 16] (fun v5 v6 v7 v16 wr => ∃ (j : Nat) (L : List Int) (s : Int) (f : Bool) (a : Int) (u5 u6 u7 : Value), u5 = v5 ∧ u6 = v6 ∧ u7 = v7 ∧ v16 = .int .i64 (j : Int) ∧ Aside0 (j ≤ 2) ∧ Aside0 (L.length = 68) ∧ Aside0 (0 ≤ s) ∧ Aside0 (a = (impl_openVolume.at f s)) ∧ Aside0 (stN (decB l0) nb j = (L, s, f)) ∧ Aside0 (wr.heap[s1]? = some (.cells (volC A0 l0.length c0 L a).toArray 184 (0, 0))) ∧ Aside0 (Below w.heap.size w wr)) (fun _ _ _ v16 _ => 2 - (intOf v16).toNat)
  case atStart => exact ⟨0, (List.replicate 68 0), 0, false, -1, _, _, _, rfl, rfl, rfl, rfl, ⟨Nat.zero_le _⟩, NZ, ⟨Int.le_refl _⟩, ⟨rfl⟩, ⟨rfl⟩, HG2, HB2⟩
  case round =>
    clear HG2 HB2
    obtain ⟨j, L, s, f, a, v5, v6, v7, rfl, rfl, rfl, rfl, hj, HLL, HS0, HAT, HST, HG, HB⟩ := hrel
    by_cases c9 : j < 2
    · have c9b0 : decide ((j : Int) < 2) = true := decide_eq_true (by omega)
      have c9b1 : decide (j < 2) = true := decide_eq_true c9
      have C9 := Aside0.mk c9
      clear c9
      obtain ⟨r, kd, hd⟩ : ∃ r kd, decB l0 j = (r, kd) := ⟨_, _, rfl⟩
      have HD := Aside0.mk hd
      have NL := Aside0.mk (show r.length = 68 by have h_ : r = (decB l0 j).1 := (congrArg Prod.fst hd).symm; rw [h_]; exact decF_length (fsB_length _))
      have EF := Aside0.mk (show impl_DecodeFsinfo.f (blk l0 j) = some (r, kd) by rw [← hd]; exact if_pos (blk_byt HBY.out j))
      have HJB := Aside0.mk (show 512 * j + 512 ≤ l0.length by have := HSZ.out.2; have := C9.out; omega)
      obtain ⟨x0, hx0⟩ : ∃ x, x = r.getD 0 0 := ⟨_, rfl⟩
      obtain ⟨x1, hx1⟩ : ∃ x, x = r.getD 1 0 := ⟨_, rfl⟩
      obtain ⟨y0, hy0⟩ : ∃ x, x = L.getD 0 0 := ⟨_, rfl⟩
      have X0 := Aside0.mk hx0
      have X1 := Aside0.mk hx1
      have Y0 := Aside0.mk hy0
      clear hd hx0 hx1 hy0
      have HQ_ : Int.tdiv (l0.length : Int) 512 = nb := HSZ.out.1.symm
      have HQ2_ : (l0.length : Int) / 512 = nb := by rw [HSZ.out.1]; rfl
      have hn0_ : wrap64 nb = nb := by have := HSZ.out; unfold wrap64; omega
      by_cases ce : kd = 0
      case neg =>
        have e0 : (kd == 0) = false := beq_eq_false_iff_ne.mpr ce
        have CE := Aside0.mk ce
        clear ce
        go_wp2_with (first | ((with_reducible refine gate_dst (N := 22) rfl ?_); refine goesL_ (some 22) rfl rfl Tryd.func102 (by kernel_rfl) rfl #[.slice A0 l0.length c0, .int .i64 (j : Int)] rfl (by (try simp only [List.map_toArray, List.map_cons, List.map_nil]); first | done | rfl) ?_; refine (impl_blockOf.calls A0 c0 l0 j _ (Kd.C_below HR0.out HB.out) HC0.out HJB.out HLM.out).mono ?_; rintro e_ w5 ⟨⟨A5, c5, rfl, hr5, hc5⟩, b_⟩; refine ⟨_, rfl, ?_⟩; have R5 := Aside0.mk hr5; have C5 := Aside0.mk hc5; clear hr5 hc5; have HG_5 := Aside0.mk (blk_below HG.out b_); have HB_5 := Aside0.mk (below_then HB.out HB.out.size b_); clear b_ HG HB) | ((with_reducible refine gate_dst (N := 23) rfl ?_); refine goesL_ (some 23) rfl rfl Tryd.func111 (by kernel_rfl) rfl #[.slice A5 (blk l0 j).length c5] rfl (by (try simp only [List.map_toArray, List.map_cons, List.map_nil]); first | done | rfl) ?_; refine (impl_DecodeFsinfo.calls A5 c5 (blk l0 j) r kd _ (Kd.C_below HV.out HB_5.out) R5.out C5.out EF.out).mono ?_; rintro e_ w6 ⟨rfl, b_⟩; refine ⟨_, rfl, ?_⟩; have HG_6 := Aside0.mk (blk_below HG_5.out b_); have HB_6 := Aside0.mk (below_then HB_5.out HB_5.out.size b_); have hz2_ := blk_lt HG_6.out; obtain ⟨s6, S6⟩ : ∃ s, Aside0 (w6.heap.size = s) := ⟨_, ⟨rfl⟩⟩; rw [S6.out] at hz2_; clear b_ HG_5 HB_5) | ((with_reducible refine gate_dst (N := 6) rfl ?_); refine hx_alloc rfl 6 rfl 127 rfl S6 (.agg (nums .i64 (List.replicate 68 0)).toArray) (nums .i64 (List.replicate 68 0)).toArray Z127 rfl ?_; intro w7 s7 Ls7 Ss7 b_ g_; have HX := Aside0.mk g_; have HB_7 := Aside0.mk (below_then HB_6.out HB_6.out.size b_); have HG_7 := Aside0.mk (blk_below HG_6.out b_); clear b_ g_ HB_6 HG_6) | ((with_reducible refine gate_store (t := 127) (p := 6) (v := .tmp 24) rfl ?_); refine hx_store rfl rfl 127 (.tmp 6) (.tmp 24) rfl s6 68 rfl (nums .i64 r).toArray rfl (by kernel_rfl) (nums_size _ _ _ NL.out) (nums_one _ _) HX.out (by simp [nums]) ?_; intro w8 t_ gg_; have HX_8 := Aside0.mk gg_; have HG_8 := Aside0.mk (t_.keep (show s1 ≠ s6 by omega) HG_7.out); have HB_8 := Aside0.mk (t_.below HB_7.out (by omega)); clear t_ gg_ HX HB_7 HG_7; have f1_ : w8.cell? ⟨s6, 1, none⟩ = some (.int .i64 x1) := (by rw [X1.out]; exact (blk_cell HX_8.out 1).trans (by simp [nums, NL.out])); have f2_ : w8.cell? ⟨s6, 0, none⟩ = some (.int .i64 x0) := (by rw [X0.out]; exact (blk_cell HX_8.out 0).trans (by simp [nums, NL.out])); have f3_ : w8.cell? ⟨s1, 69, none⟩ = some (.int .i64 a) := (blk_cell HG_8.out 69).trans (volC_at HLL.out); have f4_ : w8.cell? ⟨s1, 1, none⟩ = some (.int .i64 y0) := (by rw [Y0.out]; exact (blk_cell HG_8.out (1 + 0)).trans (volC_rec HLL.out 0 (by decide)))))
        go_quiet (fail)
        clear f1_ f2_ f3_ f4_
        go_wp2_with (first | fail)
        go_roundw
        case rel => exact ⟨j + 1, L, s, _, a, _, _, _, rfl, rfl, rfl, by first | rw [show wrap64 ((j : Int) + 1) = ((j + 1 : Nat) : Int) by (have := C9.out; unfold wrap64; omega)] | (simp; done), ⟨by have := C9.out; omega⟩, HLL, HS0, HAT, ⟨stN_skip HST.out HD.out (fun h_ => by have h1_ := CE.out; have h2_ := h_.1.1; omega)⟩, ⟨blk_drewN HG_8.out _⟩, ⟨pw_below_drewN HB_8.out _⟩⟩
        case measure =>
          (try rw [show wrap64 ((j : Int) + 1) = ((j + 1 : Nat) : Int) by (have := C9.out; unfold wrap64; omega)])
          simp only [intOf]
          have := C9.out
          omega
      have e0 : (kd == 0) = true := beq_iff_eq.mpr ce
      have CE := Aside0.mk ce
      clear ce
      by_cases cn : x1 = nb
      case neg =>
        have e1 : (x1 == nb) = false := beq_eq_false_iff_ne.mpr cn
        have CN := Aside0.mk cn
        clear cn
        go_wp2_with (first | ((with_reducible refine gate_dst (N := 22) rfl ?_); refine goesL_ (some 22) rfl rfl Tryd.func102 (by kernel_rfl) rfl #[.slice A0 l0.length c0, .int .i64 (j : Int)] rfl (by (try simp only [List.map_toArray, List.map_cons, List.map_nil]); first | done | rfl) ?_; refine (impl_blockOf.calls A0 c0 l0 j _ (Kd.C_below HR0.out HB.out) HC0.out HJB.out HLM.out).mono ?_; rintro e_ w5 ⟨⟨A5, c5, rfl, hr5, hc5⟩, b_⟩; refine ⟨_, rfl, ?_⟩; have R5 := Aside0.mk hr5; have C5 := Aside0.mk hc5; clear hr5 hc5; have HG_5 := Aside0.mk (blk_below HG.out b_); have HB_5 := Aside0.mk (below_then HB.out HB.out.size b_); clear b_ HG HB) | ((with_reducible refine gate_dst (N := 23) rfl ?_); refine goesL_ (some 23) rfl rfl Tryd.func111 (by kernel_rfl) rfl #[.slice A5 (blk l0 j).length c5] rfl (by (try simp only [List.map_toArray, List.map_cons, List.map_nil]); first | done | rfl) ?_; refine (impl_DecodeFsinfo.calls A5 c5 (blk l0 j) r kd _ (Kd.C_below HV.out HB_5.out) R5.out C5.out EF.out).mono ?_; rintro e_ w6 ⟨rfl, b_⟩; refine ⟨_, rfl, ?_⟩; have HG_6 := Aside0.mk (blk_below HG_5.out b_); have HB_6 := Aside0.mk (below_then HB_5.out HB_5.out.size b_); have hz2_ := blk_lt HG_6.out; obtain ⟨s6, S6⟩ : ∃ s, Aside0 (w6.heap.size = s) := ⟨_, ⟨rfl⟩⟩; rw [S6.out] at hz2_; clear b_ HG_5 HB_5) | ((with_reducible refine gate_dst (N := 6) rfl ?_); refine hx_alloc rfl 6 rfl 127 rfl S6 (.agg (nums .i64 (List.replicate 68 0)).toArray) (nums .i64 (List.replicate 68 0)).toArray Z127 rfl ?_; intro w7 s7 Ls7 Ss7 b_ g_; have HX := Aside0.mk g_; have HB_7 := Aside0.mk (below_then HB_6.out HB_6.out.size b_); have HG_7 := Aside0.mk (blk_below HG_6.out b_); clear b_ g_ HB_6 HG_6) | ((with_reducible refine gate_store (t := 127) (p := 6) (v := .tmp 24) rfl ?_); refine hx_store rfl rfl 127 (.tmp 6) (.tmp 24) rfl s6 68 rfl (nums .i64 r).toArray rfl (by kernel_rfl) (nums_size _ _ _ NL.out) (nums_one _ _) HX.out (by simp [nums]) ?_; intro w8 t_ gg_; have HX_8 := Aside0.mk gg_; have HG_8 := Aside0.mk (t_.keep (show s1 ≠ s6 by omega) HG_7.out); have HB_8 := Aside0.mk (t_.below HB_7.out (by omega)); clear t_ gg_ HX HB_7 HG_7; have f1_ : w8.cell? ⟨s6, 1, none⟩ = some (.int .i64 x1) := (by rw [X1.out]; exact (blk_cell HX_8.out 1).trans (by simp [nums, NL.out])); have f2_ : w8.cell? ⟨s6, 0, none⟩ = some (.int .i64 x0) := (by rw [X0.out]; exact (blk_cell HX_8.out 0).trans (by simp [nums, NL.out])); have f3_ : w8.cell? ⟨s1, 69, none⟩ = some (.int .i64 a) := (blk_cell HG_8.out 69).trans (volC_at HLL.out); have f4_ : w8.cell? ⟨s1, 1, none⟩ = some (.int .i64 y0) := (by rw [Y0.out]; exact (blk_cell HG_8.out (1 + 0)).trans (volC_rec HLL.out 0 (by decide)))))
        go_quiet (fail)
        clear f1_ f2_ f3_ f4_
        go_wp2_with (first | fail)
        go_roundw
        case rel => exact ⟨j + 1, L, s, _, a, _, _, _, rfl, rfl, rfl, by first | rw [show wrap64 ((j : Int) + 1) = ((j + 1 : Nat) : Int) by (have := C9.out; unfold wrap64; omega)] | (simp; done), ⟨by have := C9.out; omega⟩, HLL, HS0, HAT, ⟨stN_skip HST.out HD.out (fun h_ => by have h1_ := CN.out; have h2_ := X1.out; have h3_ := h_.1.2; omega)⟩, ⟨blk_drewN HG_8.out _⟩, ⟨pw_below_drewN HB_8.out _⟩⟩
        case measure =>
          (try rw [show wrap64 ((j : Int) + 1) = ((j + 1 : Nat) : Int) by (have := C9.out; unfold wrap64; omega)])
          simp only [intOf]
          have := C9.out
          omega
      have e1 : (x1 == nb) = true := beq_iff_eq.mpr cn
      have CN := Aside0.mk cn
      clear cn
      cases f
      case false =>
        have e3 : decide (a < 0) = true := decide_eq_true (by have h1_ : a = -1 := HAT.out; omega)
        go_wp2_with (first | ((with_reducible refine gate_dst (N := 22) rfl ?_); refine goesL_ (some 22) rfl rfl Tryd.func102 (by kernel_rfl) rfl #[.slice A0 l0.length c0, .int .i64 (j : Int)] rfl (by (try simp only [List.map_toArray, List.map_cons, List.map_nil]); first | done | rfl) ?_; refine (impl_blockOf.calls A0 c0 l0 j _ (Kd.C_below HR0.out HB.out) HC0.out HJB.out HLM.out).mono ?_; rintro e_ w5 ⟨⟨A5, c5, rfl, hr5, hc5⟩, b_⟩; refine ⟨_, rfl, ?_⟩; have R5 := Aside0.mk hr5; have C5 := Aside0.mk hc5; clear hr5 hc5; have HG_5 := Aside0.mk (blk_below HG.out b_); have HB_5 := Aside0.mk (below_then HB.out HB.out.size b_); clear b_ HG HB) | ((with_reducible refine gate_dst (N := 23) rfl ?_); refine goesL_ (some 23) rfl rfl Tryd.func111 (by kernel_rfl) rfl #[.slice A5 (blk l0 j).length c5] rfl (by (try simp only [List.map_toArray, List.map_cons, List.map_nil]); first | done | rfl) ?_; refine (impl_DecodeFsinfo.calls A5 c5 (blk l0 j) r kd _ (Kd.C_below HV.out HB_5.out) R5.out C5.out EF.out).mono ?_; rintro e_ w6 ⟨rfl, b_⟩; refine ⟨_, rfl, ?_⟩; have HG_6 := Aside0.mk (blk_below HG_5.out b_); have HB_6 := Aside0.mk (below_then HB_5.out HB_5.out.size b_); have hz2_ := blk_lt HG_6.out; obtain ⟨s6, S6⟩ : ∃ s, Aside0 (w6.heap.size = s) := ⟨_, ⟨rfl⟩⟩; rw [S6.out] at hz2_; clear b_ HG_5 HB_5) | ((with_reducible refine gate_dst (N := 6) rfl ?_); refine hx_alloc rfl 6 rfl 127 rfl S6 (.agg (nums .i64 (List.replicate 68 0)).toArray) (nums .i64 (List.replicate 68 0)).toArray Z127 rfl ?_; intro w7 s7 Ls7 Ss7 b_ g_; have HX := Aside0.mk g_; have HB_7 := Aside0.mk (below_then HB_6.out HB_6.out.size b_); have HG_7 := Aside0.mk (blk_below HG_6.out b_); clear b_ g_ HB_6 HG_6) | ((with_reducible refine gate_store (t := 127) (p := 6) (v := .tmp 24) rfl ?_); refine hx_store rfl rfl 127 (.tmp 6) (.tmp 24) rfl s6 68 rfl (nums .i64 r).toArray rfl (by kernel_rfl) (nums_size _ _ _ NL.out) (nums_one _ _) HX.out (by simp [nums]) ?_; intro w8 t_ gg_; have HX_8 := Aside0.mk gg_; have HG_8 := Aside0.mk (t_.keep (show s1 ≠ s6 by omega) HG_7.out); have HB_8 := Aside0.mk (t_.below HB_7.out (by omega)); clear t_ gg_ HX HB_7 HG_7; have f1_ : w8.cell? ⟨s6, 1, none⟩ = some (.int .i64 x1) := (by rw [X1.out]; exact (blk_cell HX_8.out 1).trans (by simp [nums, NL.out])); have f2_ : w8.cell? ⟨s6, 0, none⟩ = some (.int .i64 x0) := (by rw [X0.out]; exact (blk_cell HX_8.out 0).trans (by simp [nums, NL.out])); have f3_ : w8.cell? ⟨s1, 69, none⟩ = some (.int .i64 a) := (blk_cell HG_8.out 69).trans (volC_at HLL.out); have f4_ : w8.cell? ⟨s1, 1, none⟩ = some (.int .i64 y0) := (by rw [Y0.out]; exact (blk_cell HG_8.out (1 + 0)).trans (volC_rec HLL.out 0 (by decide)))))
        go_quiet (fail)
        clear f1_ f2_ f3_ f4_
        go_wp2_with (first | ((with_reducible refine gate_dst (N := 55) rfl ?_); refine hx_load rfl 127 (.tmp 6) rfl s6 68 rfl Tryd.underlying127 rfl (by kernel_rfl) (blk_drewN HX_8.out _) (nums_size _ _ _ NL.out) ?_) | ((with_reducible refine gate_store (t := 127) (p := 58) (v := .tmp 55) rfl ?_); refine wpList_st rfl rfl 127 (.tmp 58) (.tmp 55) rfl s1 1 rfl (.agg (nums .i64 r).toArray) rfl (nums .i64 r) (volC A0 l0.length c0 r a).toArray (by simp [Value.cells]) (by rw [show (nums .i64 r).length = 68 by simp [nums, NL.out]]; kernel_rfl) (by simpa using nums_one .i64 r) (blk_drewN HG_8.out _) (by rw [volC_size HLL.out]; simp [nums, NL.out]) (volC_setr HLL.out NL.out) ?_; intro w9 t_ g_; have HG_9 := Aside0.mk g_; have HB_9 := Aside0.mk (t_.below (pw_below_drewN HB_8.out _) (by omega)); clear t_ g_) | ((with_reducible refine gate_store (t := 3) (p := 60) (v := .tmp 56) rfl ?_); refine wpList_st rfl rfl 3 (.tmp 60) (.tmp 56) rfl s1 69 rfl (.int .i64 (j : Int)) rfl [.int .i64 (j : Int)] (volC A0 l0.length c0 r (j : Int)).toArray rfl (by kernel_rfl) rfl HG_9.out (by rw [volC_size NL.out]; simp) (volC_seta NL.out) ?_; intro w10 t_ g_; have HG_10 := Aside0.mk g_; have HB_10 := Aside0.mk (t_.below HB_9.out (by omega)); clear t_ g_))
        go_roundw
        case rel => exact ⟨j + 1, r, (j : Int), true, (j : Int), _, _, _, rfl, rfl, rfl, by first | rw [show wrap64 ((j : Int) + 1) = ((j + 1 : Nat) : Int) by (have := C9.out; unfold wrap64; omega)] | (simp; done), ⟨by have := C9.out; omega⟩, NL, ⟨by omega⟩, ⟨rfl⟩, ⟨stN_use HST.out HD.out ⟨⟨CE.out, X1.out.symm.trans CN.out⟩, .inl rfl⟩⟩, HG_10, HB_10⟩
        case measure =>
          (try rw [show wrap64 ((j : Int) + 1) = ((j + 1 : Nat) : Int) by (have := C9.out; unfold wrap64; omega)])
          simp only [intOf]
          have := C9.out
          omega
      by_cases cg : y0 < x0
      case neg =>
        have e2 : decide (y0 < x0) = false := decide_eq_false cg
        have CG := Aside0.mk cg
        clear cg
        have e3 : decide (a < 0) = false := decide_eq_false (by have h1_ : a = s := HAT.out; have := HS0.out; omega)
        go_wp2_with (first | ((with_reducible refine gate_dst (N := 22) rfl ?_); refine goesL_ (some 22) rfl rfl Tryd.func102 (by kernel_rfl) rfl #[.slice A0 l0.length c0, .int .i64 (j : Int)] rfl (by (try simp only [List.map_toArray, List.map_cons, List.map_nil]); first | done | rfl) ?_; refine (impl_blockOf.calls A0 c0 l0 j _ (Kd.C_below HR0.out HB.out) HC0.out HJB.out HLM.out).mono ?_; rintro e_ w5 ⟨⟨A5, c5, rfl, hr5, hc5⟩, b_⟩; refine ⟨_, rfl, ?_⟩; have R5 := Aside0.mk hr5; have C5 := Aside0.mk hc5; clear hr5 hc5; have HG_5 := Aside0.mk (blk_below HG.out b_); have HB_5 := Aside0.mk (below_then HB.out HB.out.size b_); clear b_ HG HB) | ((with_reducible refine gate_dst (N := 23) rfl ?_); refine goesL_ (some 23) rfl rfl Tryd.func111 (by kernel_rfl) rfl #[.slice A5 (blk l0 j).length c5] rfl (by (try simp only [List.map_toArray, List.map_cons, List.map_nil]); first | done | rfl) ?_; refine (impl_DecodeFsinfo.calls A5 c5 (blk l0 j) r kd _ (Kd.C_below HV.out HB_5.out) R5.out C5.out EF.out).mono ?_; rintro e_ w6 ⟨rfl, b_⟩; refine ⟨_, rfl, ?_⟩; have HG_6 := Aside0.mk (blk_below HG_5.out b_); have HB_6 := Aside0.mk (below_then HB_5.out HB_5.out.size b_); have hz2_ := blk_lt HG_6.out; obtain ⟨s6, S6⟩ : ∃ s, Aside0 (w6.heap.size = s) := ⟨_, ⟨rfl⟩⟩; rw [S6.out] at hz2_; clear b_ HG_5 HB_5) | ((with_reducible refine gate_dst (N := 6) rfl ?_); refine hx_alloc rfl 6 rfl 127 rfl S6 (.agg (nums .i64 (List.replicate 68 0)).toArray) (nums .i64 (List.replicate 68 0)).toArray Z127 rfl ?_; intro w7 s7 Ls7 Ss7 b_ g_; have HX := Aside0.mk g_; have HB_7 := Aside0.mk (below_then HB_6.out HB_6.out.size b_); have HG_7 := Aside0.mk (blk_below HG_6.out b_); clear b_ g_ HB_6 HG_6) | ((with_reducible refine gate_store (t := 127) (p := 6) (v := .tmp 24) rfl ?_); refine hx_store rfl rfl 127 (.tmp 6) (.tmp 24) rfl s6 68 rfl (nums .i64 r).toArray rfl (by kernel_rfl) (nums_size _ _ _ NL.out) (nums_one _ _) HX.out (by simp [nums]) ?_; intro w8 t_ gg_; have HX_8 := Aside0.mk gg_; have HG_8 := Aside0.mk (t_.keep (show s1 ≠ s6 by omega) HG_7.out); have HB_8 := Aside0.mk (t_.below HB_7.out (by omega)); clear t_ gg_ HX HB_7 HG_7; have f1_ : w8.cell? ⟨s6, 1, none⟩ = some (.int .i64 x1) := (by rw [X1.out]; exact (blk_cell HX_8.out 1).trans (by simp [nums, NL.out])); have f2_ : w8.cell? ⟨s6, 0, none⟩ = some (.int .i64 x0) := (by rw [X0.out]; exact (blk_cell HX_8.out 0).trans (by simp [nums, NL.out])); have f3_ : w8.cell? ⟨s1, 69, none⟩ = some (.int .i64 a) := (blk_cell HG_8.out 69).trans (volC_at HLL.out); have f4_ : w8.cell? ⟨s1, 1, none⟩ = some (.int .i64 y0) := (by rw [Y0.out]; exact (blk_cell HG_8.out (1 + 0)).trans (volC_rec HLL.out 0 (by decide)))))
        go_quiet (fail)
        clear f1_ f2_ f3_ f4_
        go_wp2_with (first | fail)
        go_roundw
        case rel => exact ⟨j + 1, L, s, _, a, _, _, _, rfl, rfl, rfl, by first | rw [show wrap64 ((j : Int) + 1) = ((j + 1 : Nat) : Int) by (have := C9.out; unfold wrap64; omega)] | (simp; done), ⟨by have := C9.out; omega⟩, HLL, HS0, HAT, ⟨stN_skip HST.out HD.out (fun h_ => h_.2.elim (fun h2_ => Bool.noConfusion h2_) (fun h2_ => by rw [← Y0.out, ← X0.out] at h2_; have h3_ := CG.out; omega))⟩, ⟨blk_drewN HG_8.out _⟩, ⟨pw_below_drewN HB_8.out _⟩⟩
        case measure =>
          (try rw [show wrap64 ((j : Int) + 1) = ((j + 1 : Nat) : Int) by (have := C9.out; unfold wrap64; omega)])
          simp only [intOf]
          have := C9.out
          omega
      have e2 : decide (y0 < x0) = true := decide_eq_true cg
      have CG := Aside0.mk cg
      clear cg
      have e3 : decide (a < 0) = false := decide_eq_false (by have h1_ : a = s := HAT.out; have := HS0.out; omega)
      go_wp2_with (first | ((with_reducible refine gate_dst (N := 22) rfl ?_); refine goesL_ (some 22) rfl rfl Tryd.func102 (by kernel_rfl) rfl #[.slice A0 l0.length c0, .int .i64 (j : Int)] rfl (by (try simp only [List.map_toArray, List.map_cons, List.map_nil]); first | done | rfl) ?_; refine (impl_blockOf.calls A0 c0 l0 j _ (Kd.C_below HR0.out HB.out) HC0.out HJB.out HLM.out).mono ?_; rintro e_ w5 ⟨⟨A5, c5, rfl, hr5, hc5⟩, b_⟩; refine ⟨_, rfl, ?_⟩; have R5 := Aside0.mk hr5; have C5 := Aside0.mk hc5; clear hr5 hc5; have HG_5 := Aside0.mk (blk_below HG.out b_); have HB_5 := Aside0.mk (below_then HB.out HB.out.size b_); clear b_ HG HB) | ((with_reducible refine gate_dst (N := 23) rfl ?_); refine goesL_ (some 23) rfl rfl Tryd.func111 (by kernel_rfl) rfl #[.slice A5 (blk l0 j).length c5] rfl (by (try simp only [List.map_toArray, List.map_cons, List.map_nil]); first | done | rfl) ?_; refine (impl_DecodeFsinfo.calls A5 c5 (blk l0 j) r kd _ (Kd.C_below HV.out HB_5.out) R5.out C5.out EF.out).mono ?_; rintro e_ w6 ⟨rfl, b_⟩; refine ⟨_, rfl, ?_⟩; have HG_6 := Aside0.mk (blk_below HG_5.out b_); have HB_6 := Aside0.mk (below_then HB_5.out HB_5.out.size b_); have hz2_ := blk_lt HG_6.out; obtain ⟨s6, S6⟩ : ∃ s, Aside0 (w6.heap.size = s) := ⟨_, ⟨rfl⟩⟩; rw [S6.out] at hz2_; clear b_ HG_5 HB_5) | ((with_reducible refine gate_dst (N := 6) rfl ?_); refine hx_alloc rfl 6 rfl 127 rfl S6 (.agg (nums .i64 (List.replicate 68 0)).toArray) (nums .i64 (List.replicate 68 0)).toArray Z127 rfl ?_; intro w7 s7 Ls7 Ss7 b_ g_; have HX := Aside0.mk g_; have HB_7 := Aside0.mk (below_then HB_6.out HB_6.out.size b_); have HG_7 := Aside0.mk (blk_below HG_6.out b_); clear b_ g_ HB_6 HG_6) | ((with_reducible refine gate_store (t := 127) (p := 6) (v := .tmp 24) rfl ?_); refine hx_store rfl rfl 127 (.tmp 6) (.tmp 24) rfl s6 68 rfl (nums .i64 r).toArray rfl (by kernel_rfl) (nums_size _ _ _ NL.out) (nums_one _ _) HX.out (by simp [nums]) ?_; intro w8 t_ gg_; have HX_8 := Aside0.mk gg_; have HG_8 := Aside0.mk (t_.keep (show s1 ≠ s6 by omega) HG_7.out); have HB_8 := Aside0.mk (t_.below HB_7.out (by omega)); clear t_ gg_ HX HB_7 HG_7; have f1_ : w8.cell? ⟨s6, 1, none⟩ = some (.int .i64 x1) := (by rw [X1.out]; exact (blk_cell HX_8.out 1).trans (by simp [nums, NL.out])); have f2_ : w8.cell? ⟨s6, 0, none⟩ = some (.int .i64 x0) := (by rw [X0.out]; exact (blk_cell HX_8.out 0).trans (by simp [nums, NL.out])); have f3_ : w8.cell? ⟨s1, 69, none⟩ = some (.int .i64 a) := (blk_cell HG_8.out 69).trans (volC_at HLL.out); have f4_ : w8.cell? ⟨s1, 1, none⟩ = some (.int .i64 y0) := (by rw [Y0.out]; exact (blk_cell HG_8.out (1 + 0)).trans (volC_rec HLL.out 0 (by decide)))))
      go_quiet (fail)
      clear f1_ f2_ f3_ f4_
      go_wp2_with (first | ((with_reducible refine gate_dst (N := 55) rfl ?_); refine hx_load rfl 127 (.tmp 6) rfl s6 68 rfl Tryd.underlying127 rfl (by kernel_rfl) (blk_drewN HX_8.out _) (nums_size _ _ _ NL.out) ?_) | ((with_reducible refine gate_store (t := 127) (p := 58) (v := .tmp 55) rfl ?_); refine wpList_st rfl rfl 127 (.tmp 58) (.tmp 55) rfl s1 1 rfl (.agg (nums .i64 r).toArray) rfl (nums .i64 r) (volC A0 l0.length c0 r a).toArray (by simp [Value.cells]) (by rw [show (nums .i64 r).length = 68 by simp [nums, NL.out]]; kernel_rfl) (by simpa using nums_one .i64 r) (blk_drewN HG_8.out _) (by rw [volC_size HLL.out]; simp [nums, NL.out]) (volC_setr HLL.out NL.out) ?_; intro w9 t_ g_; have HG_9 := Aside0.mk g_; have HB_9 := Aside0.mk (t_.below (pw_below_drewN HB_8.out _) (by omega)); clear t_ g_) | ((with_reducible refine gate_store (t := 3) (p := 60) (v := .tmp 56) rfl ?_); refine wpList_st rfl rfl 3 (.tmp 60) (.tmp 56) rfl s1 69 rfl (.int .i64 (j : Int)) rfl [.int .i64 (j : Int)] (volC A0 l0.length c0 r (j : Int)).toArray rfl (by kernel_rfl) rfl HG_9.out (by rw [volC_size NL.out]; simp) (volC_seta NL.out) ?_; intro w10 t_ g_; have HG_10 := Aside0.mk g_; have HB_10 := Aside0.mk (t_.below HB_9.out (by omega)); clear t_ g_))
      go_roundw
      case rel => exact ⟨j + 1, r, (j : Int), true, (j : Int), _, _, _, rfl, rfl, rfl, by first | rw [show wrap64 ((j : Int) + 1) = ((j + 1 : Nat) : Int) by (have := C9.out; unfold wrap64; omega)] | (simp; done), ⟨by have := C9.out; omega⟩, NL, ⟨by omega⟩, ⟨rfl⟩, ⟨stN_use HST.out HD.out ⟨⟨CE.out, X1.out.symm.trans CN.out⟩, .inr (by rw [← Y0.out, ← X0.out]; exact CG.out)⟩⟩, HG_10, HB_10⟩
      case measure =>
        (try rw [show wrap64 ((j : Int) + 1) = ((j + 1 : Nat) : Int) by (have := C9.out; unfold wrap64; omega)])
        simp only [intOf]
        have := C9.out
        omega
    · obtain rfl : j = 2 := by have := hj.out; omega
      have c9b0 : decide ((2 : Int) < 2) = false := by decide
      have h := H.out
      rw [HST.out] at h
      have f3_ : wr.cell? ⟨s1, 69, none⟩ = some (.int .i64 a) := (blk_cell HG.out 69).trans (volC_at HLL.out)
      clear c9 H
      cases f
      case false =>
        simp only [chosen, Bool.false_eq_true, if_false, Prod.mk.injEq] at h
        obtain ⟨rfl, rfl, rfl⟩ := h
        have e3 : decide (a < 0) = true := decide_eq_true (by have h1_ : a = -1 := HAT.out; omega)
        go_wp2
        go_ret2
        first | exact ⟨.inr ⟨by decide, rfl, rfl, rfl⟩, HB.out⟩ | exact ⟨rfl, HB.out⟩
      simp only [chosen, if_true, Prod.mk.injEq] at h
      obtain ⟨rfl, rfl, rfl⟩ := h
      have e4 : a = s := HAT.out
      have e3 : decide (a < 0) = false := decide_eq_false (by rw [e4]; have := HS0.out; omega)
      subst e4
      go_wp2
      go_ret2
      first | exact ⟨.inl ⟨rfl, HLL.out, _, rfl, HG.out, by omega⟩, HB.out⟩ | exact ⟨⟨HLL.out, _, rfl, HG.out, by omega⟩, HB.out⟩
open Go.Proofs.YtknlpjoidjgciaaDoorW Go.Proofs.YtknlpjoidjgciaaDoorW.PrintHand Go.Proofs.YtknlpjoidjgciaaDoorW.PrintHx
open Go.Proofs.YtknlpjoidjgciaaDoorW.PrintLe Go.Proofs.YtknlpjoidjgciaaDoorW.PrintGrow Go.Proofs.YtknlpjoidjgciaaDoorW.PrintDec Go.Proofs.YtknlpjoidjgciaaDoorW.PrintIno Go.Proofs.YtknlpjoidjgciaaDoorW.PrintTab2 Go.Proofs.YtknlpjoidjgciaaDoorW.PrintTab3 Go.Proofs.YtknlpjoidjgciaaDoorW.PrintFsi Go.Proofs.YtknlpjoidjgciaaDoorW.PrintFsb Go.Proofs.YtknlpjoidjgciaaDoorW.PrintFsd Go.Proofs.YtknlpjoidjgciaaDoorW.PrintCrc Go.Proofs.YtknlpjoidjgciaaDoorW.PrintSnp Go.Proofs.YtknlpjoidjgciaaDoorW.PrintSnd
set_option maxHeartbeats 8000000 in
set_option maxRecDepth 100000 in
theorem impl_getSnap.calls (A0 : Option Addr) (c0 : Nat) (l0 : List Int) (x : Int) (s : ByteArray) (p q : Int) (r : List Int) (w : World) (hr0 : Kd.C (Kd.int .u8) w A0 l0.length l0) (hc0 : l0.length ≤ c0) (hl : l0.length = 512) (hby : Byt l0) (hx : x = l0.getD 8 0) (hs : s = nameS l0) (hp : p = wrap64 (le (seg l0 40 8))) (hq : q = wrap64 (le (seg l0 48 8))) (hrr : r = rootB (seg l0 56 64)) :
    Calls Tryd.prog 145 #[.slice A0 l0.length c0] w fun e w' => e = .returned (.agg (snapC x s p q r).toArray) ∧ Below w.heap.size w w' := by
  have HL := Aside0.mk hl
  have HBY := Aside0.mk hby
  have HR0 := Aside0.mk hr0
  have HC0 := Aside0.mk hc0
  have HS := Aside0.mk hs
  have Z131 : ∀ w, (zeroValue 131).run Tryd.prog w = .ok (.agg (snapC 0 ByteArray.empty 0 0 (List.replicate 15 0)).toArray) w := fun _ => by kernel_rfl
  have EG8 := Aside0.mk (show impl_number.f 20 l0 8 1 = some x by rw [hx, ← (one_byte hby 8 (by omega)).1]; exact number_f l0 8 1 hby (by decide) (by omega) (by omega) 20 (by decide))
  obtain ⟨v9, h9⟩ : ∃ v, v = l0.getD 9 0 := ⟨_, rfl⟩
  have EG9 := Aside0.mk (show impl_number.f 20 l0 9 1 = some v9 by rw [h9, ← (one_byte hby 9 (by omega)).1]; exact number_f l0 9 1 hby (by decide) (by omega) (by omega) 20 (by decide))
  have EG40 := Aside0.mk (show impl_number.f 20 l0 40 8 = some p by rw [hp]; exact number_f l0 40 8 hby (by decide) (by omega) (by omega) 20 (by decide))
  have EG48 := Aside0.mk (show impl_number.f 20 l0 48 8 = some q by rw [hq]; exact number_f l0 48 8 hby (by decide) (by omega) (by omega) 20 (by decide))
  obtain ⟨m, hm⟩ : ∃ m, m = nameLen l0 := ⟨_, rfl⟩
  have hm26 : m ≤ 26 := by rw [hm]; exact nameLen_le l0
  have EM := Aside0.mk (show (if 26 < v9 then 26 else v9) = (m : Int) by rw [h9, hm]; exact name_min (one_byte hby 9 (by omega)).2.1)
  have EW := Aside0.mk (show wrap64 (10 + (m : Int)) = ((10 + m : Nat) : Int) by unfold wrap64; omega)
  have info5_ : (Tryd.prog.info? 5).map (fun i => (i.zero, i.size, i.bytes)) = some (some (.int .u8 0), 1, 1) := by kernel_rfl
  obtain ⟨i0_, hi0_, _, hsz_, _⟩ := info_parts info5_
  obtain ⟨A10, hcut10, hA10, hC10⟩ := print_mid_of (P := Tryd.prog) (Value.int .u8) 0 22 5 .i64 .i64 Tryd.underlying22 hi0_ hsz_ A0 c0 l0 (10 : Int) ((10 + m : Nat) : Int) (by decide) (by omega) (by rw [hl]; omega) hc0
  obtain ⟨q10, hq10⟩ : ∃ q, q = (l0.take (((10 + m : Nat) : Int)).toNat).drop (10 : Int).toNat := ⟨_, rfl⟩
  rw [← hq10] at hcut10 hA10 hC10
  obtain ⟨k10, hk10⟩ : ∃ k, k = c0 - (10 : Int).toNat := ⟨_, rfl⟩
  rw [← hk10] at hcut10 hC10
  clear hk10
  have HSQ := Aside0.mk (show strOfNums q10 = s by rw [hs, nameS, hq10, ← hm, Int.toNat_natCast, show (10 : Int).toNat = 10 from rfl, take_drop, show 10 + m - 10 = m by omega])
  have HR10 := Aside0.mk (Kd.C_of_reads (h1 := fun _ => rfl) (hA10 _ (Kd.reads_of_C hr0)))
  have HC10 := Aside0.mk hC10
  obtain ⟨A17, hcut17, hA17, hC17⟩ := print_drop_of (P := Tryd.prog) (Value.int .u8) 0 22 5 .i64 Tryd.underlying22 hi0_ hsz_ A0 c0 l0 (56 : Int) (by decide) (by rw [hl]; decide) hc0
  obtain ⟨q17, hq17⟩ : ∃ q, q = l0.drop (56 : Int).toNat := ⟨_, rfl⟩
  rw [← hq17] at hcut17 hA17 hC17
  obtain ⟨k17, hk17⟩ : ∃ k, k = c0 - (56 : Int).toNat := ⟨_, rfl⟩
  rw [← hk17] at hcut17 hC17
  clear hk17
  have hs17 : q17 = l0.drop 56 := hq17
  have HR17 := Aside0.mk (Kd.C_of_reads (h1 := fun _ => rfl) (hA17 _ (Kd.reads_of_C hr0)))
  have HC17 := Aside0.mk hC17
  have NR := Aside0.mk (show r.length = 15 by rw [hrr]; exact rootOf_length _ _)
  have EG56 := Aside0.mk (show impl_getRoot.f q17 = some r by rw [hrr, hs17, show rootB (seg l0 56 64) = rootB (l0.drop 56) from rootOf_part _ l0 56]; exact if_pos ⟨⟨by rw [List.length_drop, hl]; decide, by rw [List.length_drop, hl]; decide⟩, hby.drop 56⟩)
  clear hs17 hq17 hA17 hC17 hq10 hA10 hC10 hm26 hm h9 hx hs hp hq hrr hl hby hr0 hc0
  have BU : ∀ z : List Int, z.length = 15 → ∀ w, (Instr.build 131 #[(0, .int .i64 x), (1, .string s), (2, .int .i64 p), (3, .int .i64 q), (4, .agg (nums .i64 z).toArray)]).run Tryd.prog w = .ok (.agg (snapC x s p q z).toArray) w := by
    intro z h w_
    obtain ⟨x0, b0, rfl, h0⟩ := cons_of_len h
    obtain ⟨x1, b1, rfl, h1⟩ := cons_of_len h0
    obtain ⟨x2, b2, rfl, h2⟩ := cons_of_len h1
    obtain ⟨x3, b3, rfl, h3⟩ := cons_of_len h2
    obtain ⟨x4, b4, rfl, h4⟩ := cons_of_len h3
    obtain ⟨x5, b5, rfl, h5⟩ := cons_of_len h4
    obtain ⟨x6, b6, rfl, h6⟩ := cons_of_len h5
    obtain ⟨x7, b7, rfl, h7⟩ := cons_of_len h6
    obtain ⟨x8, b8, rfl, h8⟩ := cons_of_len h7
    obtain ⟨x9, b9, rfl, h9⟩ := cons_of_len h8
    obtain ⟨x10, b10, rfl, h10⟩ := cons_of_len h9
    obtain ⟨x11, b11, rfl, h11⟩ := cons_of_len h10
    obtain ⟨x12, b12, rfl, h12⟩ := cons_of_len h11
    obtain ⟨x13, b13, rfl, h13⟩ := cons_of_len h12
    obtain ⟨x14, b14, rfl, h14⟩ := cons_of_len h13
    obtain rfl := List.length_eq_zero_iff.mp h14
    exact run_build w_ 131 _ _ (by kernel_rfl)
  replace BU := BU r NR.out
  have BU_ := Aside0.mk BU
  clear BU
  have HB0 : Aside0 (Below w.heap.size w w) := ⟨Below.refl _ _⟩
  obtain ⟨s0, Sz0⟩ : ∃ s0, Aside0 (w.heap.size = s0) := ⟨_, ⟨rfl⟩⟩
  have hw0 : w.heap.size ≤ s0 := Nat.le_of_eq Sz0.out
  have hw1 : s0 ≤ w.heap.size := Nat.le_of_eq Sz0.out.symm
  go_enter Tryd.func145, Tryd.ntmps145
  go_wp2_with (first | ((with_reducible refine gate_dst (N := 2) rfl ?_); refine hx_alloc rfl 2 rfl 131 rfl Sz0 (.agg (snapC 0 ByteArray.empty 0 0 (List.replicate 15 0)).toArray) (snapC 0 ByteArray.empty 0 0 (List.replicate 15 0)).toArray Z131 (by simp [Value.cells]) ?_; intro w1 s1 Ls1 Ss1 b_ g_; have H2 := Aside0.mk g_; have HB1 := Aside0.mk (below_then HB0.out HB0.out.size b_); clear b_ g_ HB0))
  refine wp_region_grow_last 17 [Is (.slice A0 l0.length c0), Is (.int .i64 x), Is (.slice A0 l0.length c0), Is (.slice A0 l0.length c0), Is (.int .i64 v9), Is (.int .i64 (m : Int)), Is (.int .i64 ((10 + m : Nat) : Int)), Is (.slice A10 q10.length k10), Is (.string s), Is (.slice A0 l0.length c0), Is (.int .i64 p), Is (.slice A0 l0.length c0), Is (.int .i64 q), Is (.slice A0 l0.length c0), Is (.slice A17 q17.length k17), Is (.agg (nums .i64 r).toArray), Is (.agg (snapC x s p q r).toArray)] (by kernel_rfl) (by kernel_rfl) (by kernel_rfl) (by kernel_rfl) (allst_cons st_is (allst_cons st_is (allst_cons st_is (allst_cons st_is (allst_cons st_is (allst_cons st_is (allst_cons st_is (allst_cons st_is (allst_cons st_is (allst_cons st_is (allst_cons st_is (allst_cons st_is (allst_cons st_is (allst_cons st_is (allst_cons st_is (allst_cons st_is (allst_cons st_is allst_nil))))))))))))))))) ?_ (fun w2 hgn => ?_)
  · refine steps_cons ?_ ?_
    · refine stepO_val rfl [] [0] (by kernel_rfl) (.slice A0 l0.length c0) (fun a w_ hg hf => ?_) (fun w_ _ => rfl)
      obtain ⟨_, ⟨o0, _⟩⟩ := hf
      have e0 : a.tmps[0]? = some (.slice A0 l0.length c0) := o0.trans rfl
      unfold execOp
      simp only [PrintLast.eval_of e0]
      rfl
    refine steps_cons ?_ ?_
    · refine stepO_call rfl [(0, 3)] [] (by kernel_rfl) Tryd.func165 (by kernel_rfl) rfl rfl (fun a w_ hg hf => ?_)
      obtain ⟨⟨⟨_, e3, rfl⟩, _⟩, _⟩ := hf
      replace e3 : a.tmps[3]? = some (.slice A0 l0.length c0) := e3
      refine ⟨#[.slice A0 l0.length c0, .int .i64 8, .int .i64 1], (by simp only [List.map_toArray, List.map_cons, List.map_nil, PrintLast.eval_of e3]; first | done | rfl), (impl_number.calls 20 A0 c0 l0 8 1 x w_ (Kd.C_below HR0.out (below_then HB1.out HB1.out.size hg)) HC0.out EG8.out).mono ?_⟩
      rintro e_ w2_ ⟨rfl, d_⟩
      have b_ := kept_drawn d_
      exact ⟨_, rfl, b_, rfl⟩
    refine steps_cons ?_ ?_
    · refine stepO_val rfl [] [0] (by kernel_rfl) (.slice A0 l0.length c0) (fun a w_ hg hf => ?_) (fun w_ _ => rfl)
      obtain ⟨_, ⟨o0, _⟩⟩ := hf
      have e0 : a.tmps[0]? = some (.slice A0 l0.length c0) := o0.trans rfl
      unfold execOp
      simp only [PrintLast.eval_of e0]
      rfl
    refine steps_cons ?_ ?_
    · refine stepO_val rfl [] [0] (by kernel_rfl) (.slice A0 l0.length c0) (fun a w_ hg hf => ?_) (fun w_ _ => rfl)
      obtain ⟨_, ⟨o0, _⟩⟩ := hf
      have e0 : a.tmps[0]? = some (.slice A0 l0.length c0) := o0.trans rfl
      unfold execOp
      simp only [PrintLast.eval_of e0]
      rfl
    refine steps_cons ?_ ?_
    · refine stepO_call rfl [(3, 6)] [] (by kernel_rfl) Tryd.func165 (by kernel_rfl) rfl rfl (fun a w_ hg hf => ?_)
      obtain ⟨⟨⟨_, e6, rfl⟩, _⟩, _⟩ := hf
      replace e6 : a.tmps[6]? = some (.slice A0 l0.length c0) := e6
      refine ⟨#[.slice A0 l0.length c0, .int .i64 9, .int .i64 1], (by simp only [List.map_toArray, List.map_cons, List.map_nil, PrintLast.eval_of e6]; first | done | rfl), (impl_number.calls 20 A0 c0 l0 9 1 v9 w_ (Kd.C_below HR0.out (below_then HB1.out HB1.out.size hg)) HC0.out EG9.out).mono ?_⟩
      rintro e_ w2_ ⟨rfl, d_⟩
      have b_ := kept_drawn d_
      exact ⟨_, rfl, b_, rfl⟩
    refine steps_cons ?_ ?_
    · refine stepO_val rfl [(4, 7)] [] (by kernel_rfl) (.int .i64 (m : Int)) (fun a w_ hg hf => ?_) (fun w_ _ => rfl)
      obtain ⟨⟨⟨_, e7, rfl⟩, _⟩, _⟩ := hf
      replace e7 : a.tmps[7]? = some (.int .i64 v9) := e7
      simp only [execOp, resolve, invoke, builtin, List.map_toArray, List.map_cons, List.map_nil, PrintLast.eval_of e7, Act.eval, Sem.run_bind, Sem.run_pure, Result.andThen_ok, run_min_int2]
      simp [e7, run_min_int2, Result.andThen]
      exact EM.out
    refine steps_cons ?_ ?_
    · refine stepO_val rfl [(5, 8)] [] (by kernel_rfl) (.int .i64 ((10 + m : Nat) : Int)) (fun a w_ hg hf => ?_) (fun w_ _ => rfl)
      obtain ⟨⟨⟨_, e8, rfl⟩, _⟩, _⟩ := hf
      replace e8 : a.tmps[8]? = some (.int .i64 (m : Int)) := e8
      unfold execOp
      simp only [PrintLast.eval_of e8, Act.eval]
      go_simp
      (try (have e_ := EW.out; rw [← PrintLast.i64_w, Int.natCast_add] at e_; exact e_))
      (try rfl)
    refine steps_cons ?_ ?_
    · refine stepO_val rfl [(2, 5), (6, 9)] [] (by kernel_rfl) (.slice A10 q10.length k10) (fun a w_ hg hf => ?_) (fun w_ _ => rfl)
      obtain ⟨⟨⟨_, e5, rfl⟩, ⟨_, e9, rfl⟩, _⟩, _⟩ := hf
      replace e5 : a.tmps[5]? = some (.slice A0 l0.length c0) := e5
      replace e9 : a.tmps[9]? = some (.int .i64 ((10 + m : Nat) : Int)) := e9
      have hel_ : Tryd.prog.elem 22 = 5 := by simp [Program.elem, Tryd.underlying22]
      have hsl_ := run_sliceAt_slice (P := Tryd.prog) (w := w_) 22 (.slice A0 l0.length c0) (some (.int .i64 10)) (some (.int .i64 ((10 + m : Nat) : Int))) none (by rw [hel_]; exact Tryd.underlying22)
      have hc_ : a.eval (.const (.int .i64 10)) = .int .i64 10 := rfl
      unfold execOp
      simp only [PrintLast.eval_of e5, PrintLast.eval_of e9, hc_, Option.map_some, Option.map_none, Sem.run_bind, hsl_, hcut10, Result.andThen_ok, Sem.run_pure]
    refine steps_cons ?_ ?_
    · refine stepO_val rfl [(7, 10)] [] (by kernel_rfl) (.string s) (fun a w_ hg hf => ?_) (fun w_ _ => rfl)
      obtain ⟨⟨⟨_, e10, rfl⟩, _⟩, _⟩ := hf
      replace e10 : a.tmps[10]? = some (.slice A10 q10.length k10) := e10
      have h_ := Kd.C_string (P := Tryd.prog) (A := A10) (c := k10) Tryd.underlying22 Tryd.underlying5 Tryd.underlying9 (Kd.C_below HR10.out (below_then HB1.out HB1.out.size hg))
      unfold execOp
      simp only [PrintLast.eval_of e10, Sem.run_bind, h_, Result.andThen_ok, Sem.run_pure]
      rw [HSQ.out]
    refine steps_cons ?_ ?_
    · refine stepO_val rfl [] [0] (by kernel_rfl) (.slice A0 l0.length c0) (fun a w_ hg hf => ?_) (fun w_ _ => rfl)
      obtain ⟨_, ⟨o0, _⟩⟩ := hf
      have e0 : a.tmps[0]? = some (.slice A0 l0.length c0) := o0.trans rfl
      unfold execOp
      simp only [PrintLast.eval_of e0]
      rfl
    refine steps_cons ?_ ?_
    · refine stepO_call rfl [(9, 12)] [] (by kernel_rfl) Tryd.func165 (by kernel_rfl) rfl rfl (fun a w_ hg hf => ?_)
      obtain ⟨⟨⟨_, e12, rfl⟩, _⟩, _⟩ := hf
      replace e12 : a.tmps[12]? = some (.slice A0 l0.length c0) := e12
      refine ⟨#[.slice A0 l0.length c0, .int .i64 40, .int .i64 8], (by simp only [List.map_toArray, List.map_cons, List.map_nil, PrintLast.eval_of e12]; first | done | rfl), (impl_number.calls 20 A0 c0 l0 40 8 p w_ (Kd.C_below HR0.out (below_then HB1.out HB1.out.size hg)) HC0.out EG40.out).mono ?_⟩
      rintro e_ w2_ ⟨rfl, d_⟩
      have b_ := kept_drawn d_
      exact ⟨_, rfl, b_, rfl⟩
    refine steps_cons ?_ ?_
    · refine stepO_val rfl [] [0] (by kernel_rfl) (.slice A0 l0.length c0) (fun a w_ hg hf => ?_) (fun w_ _ => rfl)
      obtain ⟨_, ⟨o0, _⟩⟩ := hf
      have e0 : a.tmps[0]? = some (.slice A0 l0.length c0) := o0.trans rfl
      unfold execOp
      simp only [PrintLast.eval_of e0]
      rfl
    refine steps_cons ?_ ?_
    · refine stepO_call rfl [(11, 14)] [] (by kernel_rfl) Tryd.func165 (by kernel_rfl) rfl rfl (fun a w_ hg hf => ?_)
      obtain ⟨⟨⟨_, e14, rfl⟩, _⟩, _⟩ := hf
      replace e14 : a.tmps[14]? = some (.slice A0 l0.length c0) := e14
      refine ⟨#[.slice A0 l0.length c0, .int .i64 48, .int .i64 8], (by simp only [List.map_toArray, List.map_cons, List.map_nil, PrintLast.eval_of e14]; first | done | rfl), (impl_number.calls 20 A0 c0 l0 48 8 q w_ (Kd.C_below HR0.out (below_then HB1.out HB1.out.size hg)) HC0.out EG48.out).mono ?_⟩
      rintro e_ w2_ ⟨rfl, d_⟩
      have b_ := kept_drawn d_
      exact ⟨_, rfl, b_, rfl⟩
    refine steps_cons ?_ ?_
    · refine stepO_val rfl [] [0] (by kernel_rfl) (.slice A0 l0.length c0) (fun a w_ hg hf => ?_) (fun w_ _ => rfl)
      obtain ⟨_, ⟨o0, _⟩⟩ := hf
      have e0 : a.tmps[0]? = some (.slice A0 l0.length c0) := o0.trans rfl
      unfold execOp
      simp only [PrintLast.eval_of e0]
      rfl
    refine steps_cons ?_ ?_
    · refine stepO_val rfl [(13, 16)] [] (by kernel_rfl) (.slice A17 q17.length k17) (fun a w_ hg hf => ?_) (fun w_ _ => rfl)
      obtain ⟨⟨⟨_, e16, rfl⟩, _⟩, _⟩ := hf
      replace e16 : a.tmps[16]? = some (.slice A0 l0.length c0) := e16
      unfold execOp
      simp only [PrintLast.eval_of e16, Act.eval]
      go_simp
      (try rfl)
    refine steps_cons ?_ ?_
    · refine stepO_call rfl [(14, 17)] [] (by kernel_rfl) Tryd.func166 (by kernel_rfl) rfl rfl (fun a w_ hg hf => ?_)
      obtain ⟨⟨⟨_, e17, rfl⟩, _⟩, _⟩ := hf
      replace e17 : a.tmps[17]? = some (.slice A17 q17.length k17) := e17
      refine ⟨#[.slice A17 q17.length k17], (by simp only [List.map_toArray, List.map_cons, List.map_nil, PrintLast.eval_of e17]; first | done | rfl), (impl_getRoot.calls A17 k17 q17 r w_ (Kd.C_below HR17.out (below_then HB1.out HB1.out.size hg)) HC17.out EG56.out).mono ?_⟩
      rintro e_ w2_ ⟨rfl, b_⟩
      exact ⟨_, rfl, b_, rfl⟩
    refine steps_cons ?_ ?_
    · refine stepO_val rfl [(1, 4), (8, 11), (10, 13), (12, 15), (15, 18)] [] (by kernel_rfl) (.agg (snapC x s p q r).toArray) (fun a w_ hg hf => ?_) (fun w_ _ => rfl)
      obtain ⟨⟨⟨_, e4, rfl⟩, ⟨_, e11, rfl⟩, ⟨_, e13, rfl⟩, ⟨_, e15, rfl⟩, ⟨_, e18, rfl⟩, _⟩, _⟩ := hf
      replace e4 : a.tmps[4]? = some (.int .i64 x) := e4
      replace e11 : a.tmps[11]? = some (.string s) := e11
      replace e13 : a.tmps[13]? = some (.int .i64 p) := e13
      replace e15 : a.tmps[15]? = some (.int .i64 q) := e15
      replace e18 : a.tmps[18]? = some (.agg (nums .i64 r).toArray) := e18
      unfold execOp
      simp only [PrintLast.eval_of e4, PrintLast.eval_of e11, PrintLast.eval_of e13, PrintLast.eval_of e15, PrintLast.eval_of e18, List.map_toArray, List.map_cons, List.map_nil, Sem.run_bind, Sem.run_pure, Result.andThen_ok, BU_.out]
    exact steps_nil
  · skip
    refine ends_cons (fun v0_ p0_ => ?_)
    obtain rfl : v0_ = _ := p0_
    refine ends_cons (fun v1_ p1_ => ?_)
    obtain rfl : v1_ = _ := p1_
    refine ends_cons (fun v2_ p2_ => ?_)
    obtain rfl : v2_ = _ := p2_
    refine ends_cons (fun v3_ p3_ => ?_)
    obtain rfl : v3_ = _ := p3_
    refine ends_cons (fun v4_ p4_ => ?_)
    obtain rfl : v4_ = _ := p4_
    refine ends_cons (fun v5_ p5_ => ?_)
    obtain rfl : v5_ = _ := p5_
    refine ends_cons (fun v6_ p6_ => ?_)
    obtain rfl : v6_ = _ := p6_
    refine ends_cons (fun v7_ p7_ => ?_)
    obtain rfl : v7_ = _ := p7_
    refine ends_cons (fun v8_ p8_ => ?_)
    obtain rfl : v8_ = _ := p8_
    refine ends_cons (fun v9_ p9_ => ?_)
    obtain rfl : v9_ = _ := p9_
    refine ends_cons (fun v10_ p10_ => ?_)
    obtain rfl : v10_ = _ := p10_
    refine ends_cons (fun v11_ p11_ => ?_)
    obtain rfl : v11_ = _ := p11_
    refine ends_cons (fun v12_ p12_ => ?_)
    obtain rfl : v12_ = _ := p12_
    refine ends_cons (fun v13_ p13_ => ?_)
    obtain rfl : v13_ = _ := p13_
    refine ends_cons (fun v14_ p14_ => ?_)
    obtain rfl : v14_ = _ := p14_
    refine ends_cons (fun v15_ p15_ => ?_)
    obtain rfl : v15_ = _ := p15_
    refine ends_cons (fun v16_ p16_ => ?_)
    obtain rfl : v16_ = _ := p16_
    refine ends_nil ?_
    simp only [Act.put, List.setIfInBounds_toArray, List.set_cons_succ, List.set_cons_zero]
    have HB2 := Aside0.mk (below_then HB1.out HB1.out.size hgn)
    have H2_2 := Aside0.mk (blk_below H2.out hgn)
    clear hgn HB1 H2
    simp only [List.drop_succ_cons, List.drop_zero]
    go_wp2_with (first | ((with_reducible refine gate_store (t := 131) (p := 2) (v := .tmp 19) rfl ?_); refine hx_store rfl rfl 131 (.tmp 2) (.tmp 19) rfl s0 19 rfl (snapC x s p q r).toArray rfl (by kernel_rfl) (snapC_size NR.out) (snapC_one _ _ _ _ _) H2_2.out snapZ_size ?_; intro w3 t_ gg_; have HE := Aside0.mk gg_; have HEB := Aside0.mk (t_.below HB2.out (by omega)); clear t_ gg_ H2_2 HB2 ))
    exact bodyPost_ret (results_cell_row rfl _ _ s0 131 _ (0, 0) _ rfl HE.out Tryd.underlying131 rfl (by rw [snapC_size NR.out]; kernel_rfl)) rfl ⟨rfl, HEB.out⟩
open Go.Proofs.YtknlpjoidjgciaaDoorW Go.Proofs.YtknlpjoidjgciaaDoorW.PrintHand Go.Proofs.YtknlpjoidjgciaaDoorW.PrintHx
def impl_CheckName.l0 : Nat → ByteArray → Nat → Option (Int)
  | 0, _, _ => none
  | k + 1, s, i => if i < s.size then (if (Utf8.decode s i).1 = 47 then (some 7) else (if (Utf8.decode s i).1 = 0 then (some 7) else (impl_CheckName.l0 k s (i + (Utf8.decode s i).2)))) else (some 0)
def impl_CheckName.f (k : Nat) (a0 : ByteArray) : Option (Int) := if a0.toList = ([] : List UInt8) then (some 7) else (if a0.toList = ([46] : List UInt8) then (some 7) else (if a0.toList = ([46, 46] : List UInt8) then (some 7) else (if (a0.size : Int) > 26 then (some 12) else (impl_CheckName.l0 k a0 0))))
theorem impl_CheckName.mono_l : ∀ k s i, LeO (impl_CheckName.l0 k s i) (impl_CheckName.l0 (k + 1) s i)
  | 0, _, _ => LeO.none _
  | k + 1, s, i => by
    have ih := impl_CheckName.mono_l k
    unfold impl_CheckName.l0
    repeat' first
      | exact ih _ _
      | exact LeO.refl _
      | refine LeO.ite ?_ ?_
theorem impl_CheckName.mono : ∀ a0 k, LeO (impl_CheckName.f k a0) (impl_CheckName.f (k + 1) a0) := by
  intro a0 k
  have ih := impl_CheckName.mono_l k
  unfold impl_CheckName.f
  repeat' first
      | exact ih _ _
      | exact LeO.refl _
      | refine LeO.ite ?_ ?_
set_option maxHeartbeats 4000000 in
set_option maxRecDepth 100000 in
theorem impl_CheckName.calls (k : Nat) (a0 : ByteArray) (r : Int) (w : World) (h : impl_CheckName.f k a0 = some r) :
    Calls Tryd.prog 188 #[.string a0] w fun e w' => e = .returned (.int .i64 r) ∧ Below w.heap.size w w' := by
  unfold impl_CheckName.f at h
  have hu9 := Tryd.underlying9
  by_cases c3 : a0.toList = ([] : List UInt8)
  · rw [if_pos c3] at h
    obtain rfl := Option.some.inj h
    have c3b0 : (a0.toList == ([] : List UInt8)) = true := beq_iff_eq.mpr c3
    clear c3
    go_enter Tryd.func188, Tryd.ntmps188
    go_wp2
    go_ret
    exact ⟨rfl, Below.refl _ _⟩
  rw [if_neg c3] at h
  have c3b0 : (a0.toList == ([] : List UInt8)) = false := beq_eq_false_iff_ne.mpr c3
  by_cases c4 : a0.toList = ([46] : List UInt8)
  · rw [if_pos c4] at h
    obtain rfl := Option.some.inj h
    have c4b0 : (a0.toList == ([46] : List UInt8)) = true := beq_iff_eq.mpr c4
    clear c3 c4
    go_enter Tryd.func188, Tryd.ntmps188
    go_wp2
    go_ret
    exact ⟨rfl, Below.refl _ _⟩
  rw [if_neg c4] at h
  have c4b0 : (a0.toList == ([46] : List UInt8)) = false := beq_eq_false_iff_ne.mpr c4
  by_cases c5 : a0.toList = ([46, 46] : List UInt8)
  · rw [if_pos c5] at h
    obtain rfl := Option.some.inj h
    have c5b0 : (a0.toList == ([46, 46] : List UInt8)) = true := beq_iff_eq.mpr c5
    clear c3 c4 c5
    go_enter Tryd.func188, Tryd.ntmps188
    go_wp2
    go_ret
    exact ⟨rfl, Below.refl _ _⟩
  rw [if_neg c5] at h
  have c5b0 : (a0.toList == ([46, 46] : List UInt8)) = false := beq_eq_false_iff_ne.mpr c5
  by_cases c6 : (a0.size : Int) > 26
  · rw [if_pos c6] at h
    obtain rfl := Option.some.inj h
    have c6b0 : decide (26 < (a0.size : Int)) = true := decide_eq_true c6
    have c6b1 : decide (26 < a0.size) = true := decide_eq_true (by omega)
    clear c3 c4 c5 c6
    go_enter Tryd.func188, Tryd.ntmps188
    go_wp2
    go_ret
    exact ⟨rfl, Below.refl _ _⟩
  rw [if_neg c6] at h
  have c6b0 : decide (26 < (a0.size : Int)) = false := decide_eq_false c6
  have c6b1 : decide (26 < a0.size) = false := decide_eq_false (by omega)
  clear c3 c4 c5 c6
  have HR := Aside0.mk h
  clear h
  go_enter Tryd.func188, Tryd.ntmps188
  go_wp2_with (first | (refine wpList_range_str rfl (.tmp 18) 9 rfl a0 rfl Tryd.underlying9 ?_))
  simp only [Act.put, List.setIfInBounds_toArray, List.set_cons_succ, List.set_cons_zero]
  go_loopg [4] k (fun kq v4 wr => ∃ pos : Nat, Aside0 (impl_CheckName.l0 kq a0 pos = some r) ∧ Aside0 (kq ≤ k) ∧ Aside0 (Below w.heap.size w wr) ∧ Aside0 (wr.heap[w.heap.size]? = some (.stringIter a0 pos)))
  case atStart =>
    exact ⟨0, HR, ⟨Nat.le_refl _⟩, ⟨(Below.refl _ _).alloc (Nat.le_refl _) _⟩, ⟨blk_new _ _⟩⟩
  case round =>
    obtain ⟨pos, HA, HK, HB, HI⟩ := hrel
    clear HR c3b0 c4b0 c5b0 c6b0 c6b1
    cases gk with
    | zero => exact absurd HA.out (by simp [impl_CheckName.l0])
    | succ k2 =>
      have H := HA.out
      clear HA
      unfold impl_CheckName.l0 at H
      by_cases c7 : pos < a0.size
      · rw [if_pos c7] at H
        have C7 := Aside0.mk c7
        clear c7
        by_cases c8 : (Utf8.decode a0 pos).1 = 47
        · rw [if_pos c8] at H
          obtain rfl := Option.some.inj H
          have c8b0 : ((((Utf8.decode a0 pos).1 : Nat) : Int) == 47) = true := by rw [c8]; rfl
          clear c8
          go_wp2_with (first | (refine wpList_next_str rfl (.tmp 19) rfl w.heap.size a0 pos rfl HI.out C7.out ?_; intro w_ t_ g_; have HB' := Aside0.mk (t_.below HB.out (Nat.le_refl _)); clear t_ g_))
          go_ret
          exact ⟨rfl, HB'.out⟩
        · rw [if_neg c8] at H
          have c8b0 : ((((Utf8.decode a0 pos).1 : Nat) : Int) == 47) = false := by simpa using (by omega : ¬ (((Utf8.decode a0 pos).1 : Nat) : Int) = 47)
          clear c8
          by_cases c9 : (Utf8.decode a0 pos).1 = 0
          · rw [if_pos c9] at H
            obtain rfl := Option.some.inj H
            have c9b0 : ((((Utf8.decode a0 pos).1 : Nat) : Int) == 0) = true := by rw [c9]; rfl
            clear c9
            go_wp2_with (first | (refine wpList_next_str rfl (.tmp 19) rfl w.heap.size a0 pos rfl HI.out C7.out ?_; intro w_ t_ g_; have HB' := Aside0.mk (t_.below HB.out (Nat.le_refl _)); clear t_ g_))
            go_ret
            exact ⟨rfl, HB'.out⟩
          · rw [if_neg c9] at H
            have c9b0 : ((((Utf8.decode a0 pos).1 : Nat) : Int) == 0) = false := by simpa using c9
            clear c9
            have H' := Aside0.mk H
            clear H
            go_wp2_with (first | (refine wpList_next_str rfl (.tmp 19) rfl w.heap.size a0 pos rfl HI.out C7.out ?_; intro w_ t_ g_; have HB' := Aside0.mk (t_.below HB.out (Nat.le_refl _)); have HI' := Aside0.mk g_; clear t_ g_))
            go_roundg k2
            case measure => have := HK.out; omega
            case rel => exact ⟨_, H', ⟨by have := HK.out; omega⟩, HB', HI'⟩
      · rw [if_neg c7] at H
        obtain rfl := Option.some.inj H
        have C7 := Aside0.mk c7
        clear c7
        go_wp2_with (first | (refine wpList_next_str_end rfl (.tmp 19) rfl w.heap.size a0 pos rfl HI.out C7.out ?_))
        go_ret
        exact ⟨rfl, HB.out⟩
end Go.Proofs.YtknlpjoidjgciaaDoor.PFnExactSnapshots
