/- TellAns: the struct of an answer; toAns. -/
import Derived.Test.YtknlpjoidjgciaaDoorTlr
import Derived.Test.YtknlpjoidjgciaaDoorTle
import Derived.Test.YtknlpjoidjgciaaDoorWEqW
namespace Go.Proofs.YtknlpjoidjgciaaDoor.PFnExactTellAns
open Go.RowKit Go.Proofs.YtknlpjoidjgciaaDoorW.PrintWords Go.Proofs.YtknlpjoidjgciaaDoorW.PrintLast Go.Proofs.YtknlpjoidjgciaaDoorW.PrintMore
open Go.Proofs.YtknlpjoidjgciaaDoorW Go.Proofs.YtknlpjoidjgciaaDoorW.PrintHand Go.Proofs.YtknlpjoidjgciaaDoorW.PrintHx
attribute [local go_sem] max2_int min2_int max_two min_two max_three min_three max_four min_four
set_option linter.unusedVariables false
set_option linter.unusedSimpArgs false

/-- an answer's cells -/
def ansC (c n : Int) (v : Value) (st : List Int) (u : Value) (us : List Int) : List Value := .int .i64 c :: .int .i64 n :: v :: (nums .i64 st ++ u :: nums .i64 us)
theorem ten {l : List Int} (h : l.length = 10) : ∃ a b c d e f g i j k, l = [a, b, c, d, e, f, g, i, j, k] := by
  match l, h with
  | [a, b, c, d, e, f, g, i, j, k], _ => exact ⟨a, b, c, d, e, f, g, i, j, k, rfl⟩
section
variable {c n : Int} {v : Value} {st : List Int} {u : Value} {us : List Int}
theorem ansC_size (h1 : st.length = 10) (h2 : us.length = 10) : (ansC c n v st u us).toArray.size = 24 := by simp [ansC, nums, h1, h2]
theorem ansC_at13 (h1 : st.length = 10) : (ansC c n v st u us).toArray[13]? = some u := by
  obtain ⟨_, _, _, _, _, _, _, _, _, _, rfl⟩ := ten h1
  rfl
theorem ansC_st (h1 : st.length = 10) : ((ansC c n v st u us).toArray.toList.drop 3).take 10 = (nums .i64 st).toArray.toList := by
  obtain ⟨_, _, _, _, _, _, _, _, _, _, rfl⟩ := ten h1
  rfl
theorem ansC_us (h1 : st.length = 10) (h2 : us.length = 10) : ((ansC c n v st u us).toArray.toList.drop 14).take 10 = (nums .i64 us).toArray.toList := by
  obtain ⟨_, _, _, _, _, _, _, _, _, _, rfl⟩ := ten h1
  obtain ⟨_, _, _, _, _, _, _, _, _, _, rfl⟩ := ten h2
  rfl
theorem ansC_one (hv : v.oneCell' = true) (hu : u.oneCell' = true) : (ansC c n v st u us).toArray.toList.all (·.oneCell') = true := by
  have e : ∀ l : List Int, (nums .i64 l).all (·.oneCell') = true := fun l => nums_one .i64 l
  show ((Value.int .i64 c).oneCell' && ((Value.int .i64 n).oneCell' && (v.oneCell' && (nums .i64 st ++ u :: nums .i64 us).all (·.oneCell')))) = true
  rw [hv, List.all_append, List.all_cons, hu, e, e]
  rfl
theorem ansC_set2 (x : Value) : (ansC c n v st u us).toArray.toList.take 2 ++ [x] ++ (ansC c n v st u us).toArray.toList.drop (2 + [x].length) = (ansC c n x st u us).toArray.toList := rfl
theorem ansC_set3 (h1 : st.length = 10) {st' : List Int} (h1' : st'.length = 10) : (ansC c n v st u us).toArray.toList.take 3 ++ nums .i64 st' ++ (ansC c n v st u us).toArray.toList.drop (3 + (nums .i64 st').length) = (ansC c n v st' u us).toArray.toList := by
  obtain ⟨_, _, _, _, _, _, _, _, _, _, rfl⟩ := ten h1
  obtain ⟨_, _, _, _, _, _, _, _, _, _, rfl⟩ := ten h1'
  rfl
theorem ansC_set13 (h1 : st.length = 10) (x : Value) : (ansC c n v st u us).toArray.toList.take 13 ++ [x] ++ (ansC c n v st u us).toArray.toList.drop (13 + [x].length) = (ansC c n v st x us).toArray.toList := by
  obtain ⟨_, _, _, _, _, _, _, _, _, _, rfl⟩ := ten h1
  rfl
theorem ansC_set14 (h1 : st.length = 10) (h2 : us.length = 10) {us' : List Int} (h2' : us'.length = 10) : (ansC c n v st u us).toArray.toList.take 14 ++ nums .i64 us' ++ (ansC c n v st u us).toArray.toList.drop (14 + (nums .i64 us').length) = (ansC c n v st u us').toArray.toList := by
  obtain ⟨_, _, _, _, _, _, _, _, _, _, rfl⟩ := ten h1
  obtain ⟨_, _, _, _, _, _, _, _, _, _, rfl⟩ := ten h2
  obtain ⟨_, _, _, _, _, _, _, _, _, _, rfl⟩ := ten h2'
  rfl
end
theorem toStat_told (st : List Int) (h : st.length = 10) (w : World) : Calls Tryd.prog 47 #[.agg (nums .i64 st).toArray] w fun e w' => e = .returned (.agg (nums .i64 st).toArray) ∧ Below w.heap.size w w' := by
  obtain ⟨_, _, _, _, _, _, _, _, _, _, rfl⟩ := ten h
  exact laws_toStat.calls _ _ _ _ _ _ _ _ _ _ _ _ _ _ _ _ _ _ _ _ w rfl
theorem toUsage_told (st : List Int) (h : st.length = 10) (w : World) : Calls Tryd.prog 49 #[.agg (nums .i64 st).toArray] w fun e w' => e = .returned (.agg (nums .i64 st).toArray) ∧ Below w.heap.size w w' := by
  obtain ⟨_, _, _, _, _, _, _, _, _, _, rfl⟩ := ten h
  exact laws_toUsage.calls _ _ _ _ _ _ _ _ _ _ _ _ _ _ _ _ _ _ _ _ w rfl
theorem w1_ (i n : Nat) (h : i < n) (hn : n ≤ 100000000) : wrap64 ((i : Int) + 1) = ((i + 1 : Nat) : Int) := by unfold wrap64; omega
theorem toByteS_l0 (l : List Int) (hn : l.length ≤ 100000000) : ∀ (m k i : Nat), i + m = l.length → laws_toByteS.l0 (k + m + 1) l (l.take i ++ List.replicate m 0) (i : Int) = some l
  | 0, k, i, h => by
    rw [laws_toByteS.l0, if_neg (by omega)]
    simp [List.take_of_length_le (show l.length ≤ i by omega)]
  | m + 1, k, i, h => by
    have hi : i < l.length := by omega
    have hl : (l.take i ++ List.replicate (m + 1) (0 : Int)).length = l.length := by simp; omega
    rw [laws_toByteS.l0, if_pos (by omega), if_pos (by omega), if_pos (by rw [hl]; omega), w1_ i l.length hi hn, show k + (m + 1) = k + m + 1 by omega, Int.toNat_natCast]
    have e : (l.take i ++ List.replicate (m + 1) (0 : Int)).set i (rd l (i : Int)) = l.take (i + 1) ++ List.replicate m 0 := by
      have ht : (l.take i).length = i := by simp; omega
      rw [List.set_append_right _ _ (by omega), ht, Nat.sub_self, List.replicate_succ, List.set_cons_zero, List.take_succ_eq_append_getElem hi, List.append_assoc, Tl.rd_some hi]
      rfl
    rw [e]
    exact toByteS_l0 l hn m k (i + 1) (by omega)
theorem toByteS_f (l : List Int) (hn : l.length ≤ 100000000) : laws_toByteS.f (l.length + 1) l = some l := by
  unfold laws_toByteS.f
  rw [if_pos (by omega), if_pos (by omega), Int.toNat_natCast]
  have := toByteS_l0 l hn l.length 0 0 (by omega)
  simpa using this
/-- names as the law hands them on -/
def dirs (l : List S142) : List S82 := l.map fun x => ⟨x.f0, x.f1, x.f2⟩
theorem toDirentS_l0 (l : List S142) (hn : l.length ≤ 100000000) : ∀ (m k i : Nat), i + m = l.length → laws_toDirentS.l0 (k + m + 1) l (dirs (l.take i) ++ List.replicate m z82) (i : Int) = some (dirs l)
  | 0, k, i, h => by
    rw [laws_toDirentS.l0, if_neg (by omega)]
    simp [List.take_of_length_le (show l.length ≤ i by omega)]
  | m + 1, k, i, h => by
    have hi : i < l.length := by omega
    have hl : (dirs (l.take i) ++ List.replicate (m + 1) z82).length = l.length := by simp [dirs]; omega
    have hd : rd_T142 l (i : Int) = l[i] := by simp [rd_T142, List.getD_eq_getElem?_getD, List.getElem?_eq_getElem hi]
    have hf : laws_toDirent.f (l[i]).f0 (l[i]).f1 (l[i]).f2 = some ((l[i]).f0, (l[i]).f1, (l[i]).f2) := rfl
    rw [laws_toDirentS.l0, if_pos (by omega), if_pos (by omega), hd, hf, Option.bind_some, if_pos (by rw [hl]; omega), w1_ i l.length hi hn, show k + (m + 1) = k + m + 1 by omega, Int.toNat_natCast]
    have e : (dirs (l.take i) ++ List.replicate (m + 1) z82).set i (⟨(l[i]).f0, (l[i]).f1, (l[i]).f2⟩ : S82) = dirs (l.take (i + 1)) ++ List.replicate m z82 := by
      have ht : (dirs (l.take i)).length = i := by simp [dirs]; omega
      rw [List.set_append_right _ _ (by omega), ht, Nat.sub_self, List.replicate_succ, List.set_cons_zero, List.take_succ_eq_append_getElem hi]
      unfold dirs
      rw [List.map_append, List.append_assoc]
      rfl
    rw [e]
    exact toDirentS_l0 l hn m k (i + 1) (by omega)
theorem toDirentS_f (l : List S142) (hn : l.length ≤ 100000000) : laws_toDirentS.f (l.length + 1) l = some (dirs l) := by
  unfold laws_toDirentS.f
  rw [if_pos (by omega), if_pos (by omega), Int.toNat_natCast]
  have := toDirentS_l0 l hn l.length 0 0 (by omega)
  simpa [dirs] using this
theorem cbel {α : Type} {d : Kd α} {w w' : World} {s : Nat} {A : Option Addr} {n : Nat} {xs : List α} (h : Aside0 (Kd.C d w A n xs)) (hs : Aside0 (w.heap.size = s)) (hb : Aside0 (Below s w w')) : Kd.C d w' A n xs := Kd.C_below h.out (by rw [hs.out]; exact hb.out)
set_option maxHeartbeats 8000000 in
set_option maxRecDepth 100000 in
theorem toAns_told (c n : Int) (A2 : Option Addr) (c2 : Nat) (l2 : List Int) (st : List Int) (A13 : Option Addr) (c13 : Nat) (l13 : List S142) (us : List Int) (w : World) (h1 : st.length = 10) (h2 : us.length = 10) (hr2 : Kd.C (Kd.int .u8) w A2 l2.length l2) (hc2 : l2.length ≤ c2) (hl2 : l2.length ≤ 100000000) (hr13 : Kd.C k142 w A13 l13.length l13) (hc13 : l13.length ≤ c13) (hl13 : l13.length ≤ 100000000) :
    Calls Tryd.prog 10 #[.agg (ansC c n (.slice A2 l2.length c2) st (.slice A13 l13.length c13) us).toArray] w fun e w' => ∃ v2_ v13_ : Value, e = .returned (.agg (ansC c n v2_ st v13_ us).toArray) ∧ Kd.R (Kd.int .u8) 5 w' w.heap.size (fun _ => True) v2_ l2 ∧ Kd.R k82 82 w' w.heap.size (fun _ => True) v13_ (dirs l13) ∧ Below w.heap.size w w' := by
  have NS := Aside0.mk h1
  have NU := Aside0.mk h2
  have C2 := Aside0.mk hr2
  have C13 := Aside0.mk hr13
  have HC2 := Aside0.mk hc2
  have HC13 := Aside0.mk hc13
  have F2 := Aside0.mk (toByteS_f l2 hl2)
  have F13 := Aside0.mk (toDirentS_f l13 hl13)
  clear h1 h2 hr2 hc2 hl2 hr13 hc13 hl13
  obtain ⟨zz, hzz⟩ : ∃ z, z = List.replicate 10 (0 : Int) := ⟨_, rfl⟩
  have NZ := Aside0.mk (show zz.length = 10 by rw [hzz]; simp)
  have Z36 : ∀ w, (zeroValue 36).run Tryd.prog w = .ok (.agg (ansC 0 0 (.slice none 0 0) zz (.slice none 0 0) zz).toArray) w := fun _ => by rw [hzz]; kernel_rfl
  clear hzz
  obtain ⟨s0, hs0⟩ : ∃ s, w.heap.size = s := ⟨_, rfl⟩
  have SB := Aside0.mk hs0
  rw [hs0]
  clear hs0
  go_enter Tryd.func10, Tryd.ntmps10
  go_wp2_with (first | ((with_reducible refine gate_dst (N := 1) rfl ?_); refine hx_box rfl 1 rfl 29 (.tmp 0) rfl SB (.agg (ansC c n (.slice A2 l2.length c2) st (.slice A13 l13.length c13) us).toArray) (ansC c n (.slice A2 l2.length c2) st (.slice A13 l13.length c13) us).toArray rfl (by simp [Value.cells]) ?_; intro w1 s1 L1 S1 b_ g_; have H1 := Aside0.mk g_; have HB : Aside0 (Below s0 w w1) := ⟨by rw [SB.out] at b_; exact b_⟩; clear b_ g_) | ((with_reducible refine gate_dst (N := 2) rfl ?_); refine hx_alloc rfl 2 rfl 36 rfl S1 (.agg (ansC 0 0 (.slice none 0 0) zz (.slice none 0 0) zz).toArray) (ansC 0 0 (.slice none 0 0) zz (.slice none 0 0) zz).toArray Z36 (by simp [Value.cells]) ?_; intro w2 s2 L2 S2 b_ g_; have H2 := Aside0.mk g_; have H1n := Aside0.mk (blk_below H1.out b_); have HBn := Aside0.mk (below_then HB.out (by have := S1.out; omega) b_); clear b_ g_; clear H1 HB; have H1 := H1n; have HB := HBn; clear H1n HBn) | ((with_reducible refine gate_dst (N := 3) rfl ?_); refine hx_alloc rfl 3 rfl 36 rfl S2 (.agg (ansC 0 0 (.slice none 0 0) zz (.slice none 0 0) zz).toArray) (ansC 0 0 (.slice none 0 0) zz (.slice none 0 0) zz).toArray Z36 (by simp [Value.cells]) ?_; intro w3 s3 L3 S3 b_ g_; have H3 := Aside0.mk g_; have H1n := Aside0.mk (blk_below H1.out b_); have H2n := Aside0.mk (blk_below H2.out b_); have HBn := Aside0.mk (below_then HB.out (by have := S2.out; omega) b_); clear b_ g_; clear H1 H2 HB; have H1 := H1n; have H2 := H2n; have HB := HBn; clear H1n H2n HBn; have ST := S3) | ((with_reducible refine gate_dst (N := 5) rfl ?_); refine wpList_ld1 rfl 3 (.tmp 4) rfl s0 0 rfl (.int .i64 c) Tryd.underlying3 rfl H1.out rfl ?_) | ((with_reducible refine gate_store (t := 3) (p := 6) (v := .tmp 5) rfl ?_); refine wpList_st rfl rfl 3 (.tmp 6) (.tmp 5) rfl s2 0 rfl (.int .i64 c) rfl [.int .i64 c] (ansC c 0 (.slice none 0 0) zz (.slice none 0 0) zz).toArray rfl (show (Tryd.prog.info? 3).map (·.size) = some 1 by kernel_rfl) rfl H3.out (by rw [ansC_size NZ.out NZ.out]; exact Nat.le_of_ble_eq_true rfl) rfl ?_; intro w_ t_ g_; have H3n := Aside0.mk g_; have H1n := Aside0.mk (t_.keep (show s0 ≠ s2 by omega) H1.out); have H2n := Aside0.mk (t_.keep (show s1 ≠ s2 by omega) H2.out); have HBn := Aside0.mk (t_.below HB.out (by omega)); have STn := Aside0.mk (t_.size.trans ST.out); clear t_ g_; clear H1 H2 H3 HB ST; have H1 := H1n; have H2 := H2n; have H3 := H3n; have HB := HBn; have ST := STn; clear H1n H2n H3n HBn STn) | ((with_reducible refine gate_dst (N := 8) rfl ?_); refine wpList_ld1 rfl 3 (.tmp 7) rfl s0 1 rfl (.int .i64 n) Tryd.underlying3 rfl H1.out rfl ?_) | ((with_reducible refine gate_store (t := 3) (p := 9) (v := .tmp 8) rfl ?_); refine wpList_st rfl rfl 3 (.tmp 9) (.tmp 8) rfl s2 1 rfl (.int .i64 n) rfl [.int .i64 n] (ansC c n (.slice none 0 0) zz (.slice none 0 0) zz).toArray rfl (show (Tryd.prog.info? 3).map (·.size) = some 1 by kernel_rfl) rfl H3.out (by rw [ansC_size NZ.out NZ.out]; exact Nat.le_of_ble_eq_true rfl) rfl ?_; intro w_ t_ g_; have H3n := Aside0.mk g_; have H1n := Aside0.mk (t_.keep (show s0 ≠ s2 by omega) H1.out); have H2n := Aside0.mk (t_.keep (show s1 ≠ s2 by omega) H2.out); have HBn := Aside0.mk (t_.below HB.out (by omega)); have STn := Aside0.mk (t_.size.trans ST.out); clear t_ g_; clear H1 H2 H3 HB ST; have H1 := H1n; have H2 := H2n; have H3 := H3n; have HB := HBn; have ST := STn; clear H1n H2n H3n HBn STn) | ((with_reducible refine gate_dst (N := 11) rfl ?_); refine wpList_ld1 rfl 22 (.tmp 10) rfl s0 2 rfl (.slice A2 l2.length c2) Tryd.underlying22 rfl H1.out rfl ?_) | ((with_reducible refine gate_dst (N := 12) rfl ?_); refine goesL_ (some 12) rfl rfl Tryd.func20 (by kernel_rfl) rfl #[.slice A2 l2.length c2] rfl (by (try simp only [List.map_toArray, List.map_cons, List.map_nil]); first | done | rfl) ?_; refine (laws_toByteS.calls (l2.length + 1) A2 c2 l2 l2 _ (cbel C2 SB HB) HC2.out F2.out).mono ?_; rintro e_ wm ⟨v2, rfl, o_, b_⟩; refine ⟨_, rfl, ?_⟩; have H1n := Aside0.mk (blk_below H1.out b_); have H2n := Aside0.mk (blk_below H2.out b_); have H3n := Aside0.mk (blk_below H3.out b_); have HBn := Aside0.mk (below_then HB.out (by have := ST.out; omega) b_); have hb2_ := b_.size; rw [ST.out] at hb2_; have OV0 := own_btw (B := s0) (s := s3) o_ (by exact ST.out) ⟨rfl⟩ (by rw [ST.out]; omega); obtain ⟨s4, h4_⟩ : ∃ s, wm.heap.size = s := ⟨_, rfl⟩; rw [h4_] at OV0 hb2_; have OV := OV0; clear OV0 ST; have ST := Aside0.mk h4_; clear h4_ o_; obtain ⟨Av, cv, rfl⟩ := Kd.R_slice OV.out; clear b_; clear H1 H2 H3 HB; have H1 := H1n; have H2 := H2n; have H3 := H3n; have HB := HBn; clear H1n H2n H3n HBn) | ((with_reducible refine gate_store (t := 22) (p := 13) (v := .tmp 12) rfl ?_); refine wpList_st rfl rfl 22 (.tmp 13) (.tmp 12) rfl s2 2 rfl (.slice Av l2.length cv) rfl [.slice Av l2.length cv] (ansC c n (.slice Av l2.length cv) zz (.slice none 0 0) zz).toArray rfl (show (Tryd.prog.info? 22).map (·.size) = some 1 by kernel_rfl) rfl H3.out (by rw [ansC_size NZ.out NZ.out]; exact Nat.le_of_ble_eq_true rfl) rfl ?_; intro w_ t_ g_; have H3n := Aside0.mk g_; have H1n := Aside0.mk (t_.keep (show s0 ≠ s2 by omega) H1.out); have H2n := Aside0.mk (t_.keep (show s1 ≠ s2 by omega) H2.out); have HBn := Aside0.mk (t_.below HB.out (by omega)); have OVn := Aside0.mk (Kd.R_kept OV.out (kept_touch t_) (fun k_ hk_ (he_ : k_ = s2) => by have := hk_.1; omega)); have STn := Aside0.mk (t_.size.trans ST.out); clear t_ g_; clear H1 H2 H3 HB ST OV; have H1 := H1n; have H2 := H2n; have H3 := H3n; have HB := HBn; have ST := STn; have OV := OVn; clear H1n H2n H3n HBn STn OVn) | ((with_reducible refine gate_dst (N := 15) rfl ?_); refine wpList_ld rfl 24 (.tmp 14) rfl s0 3 10 rfl (nums .i64 st).toArray Tryd.underlying24 rfl (by kernel_rfl) H1.out (by rw [ansC_size NS.out NU.out]; decide) (ansC_st NS.out) ?_) | ((with_reducible refine gate_dst (N := 16) rfl ?_); refine goesL_ (some 16) rfl rfl Tryd.func47 (by kernel_rfl) rfl #[.agg (nums .i64 st).toArray] rfl (by (try simp only [List.map_toArray, List.map_cons, List.map_nil]); first | done | rfl) ?_; refine (toStat_told st NS.out _).mono ?_; rintro e_ wm ⟨rfl, b_⟩; refine ⟨_, rfl, ?_⟩; have H1n := Aside0.mk (blk_below H1.out b_); have H2n := Aside0.mk (blk_below H2.out b_); have H3n := Aside0.mk (blk_below H3.out b_); have HBn := Aside0.mk (below_then HB.out (by have := ST.out; omega) b_); have OVn := Aside0.mk (Kd.R_below OV.out b_); obtain ⟨s5, h5_⟩ : ∃ s, wm.heap.size = s := ⟨_, rfl⟩; have hb5_ := b_.size; rw [h5_, ST.out] at hb5_; clear ST; have ST := Aside0.mk h5_; clear h5_; clear b_; clear H1 H2 H3 HB OV; have H1 := H1n; have H2 := H2n; have H3 := H3n; have HB := HBn; have OV := OVn; clear H1n H2n H3n HBn OVn) | ((with_reducible refine gate_store (t := 32) (p := 17) (v := .tmp 16) rfl ?_); refine wpList_st rfl rfl 32 (.tmp 17) (.tmp 16) rfl s2 3 rfl (.agg (nums .i64 st).toArray) rfl (nums .i64 st) (ansC c n (.slice Av l2.length cv) st (.slice none 0 0) zz).toArray (by simp [Value.cells]) (by rw [show (nums .i64 st).length = 10 by simp [nums, NS.out]]; kernel_rfl) (by simpa using nums_one .i64 st) H3.out (by rw [ansC_size NZ.out NZ.out]; rw [show (nums .i64 st).length = 10 by simp [nums, NS.out]]; decide) (ansC_set3 NZ.out NS.out) ?_; intro w_ t_ g_; have H3n := Aside0.mk g_; have H1n := Aside0.mk (t_.keep (show s0 ≠ s2 by omega) H1.out); have H2n := Aside0.mk (t_.keep (show s1 ≠ s2 by omega) H2.out); have HBn := Aside0.mk (t_.below HB.out (by omega)); have OVn := Aside0.mk (Kd.R_kept OV.out (kept_touch t_) (fun k_ hk_ (he_ : k_ = s2) => by have := hk_.1; omega)); have STn := Aside0.mk (t_.size.trans ST.out); clear t_ g_; clear H1 H2 H3 HB ST OV; have H1 := H1n; have H2 := H2n; have H3 := H3n; have HB := HBn; have ST := STn; have OV := OVn; clear H1n H2n H3n HBn STn OVn) | ((with_reducible refine gate_dst (N := 19) rfl ?_); refine wpList_ld1 rfl 25 (.tmp 18) rfl s0 13 rfl (.slice A13 l13.length c13) Tryd.underlying25 rfl H1.out (ansC_at13 NS.out) ?_) | ((with_reducible refine gate_dst (N := 20) rfl ?_); refine goesL_ (some 20) rfl rfl Tryd.func48 (by kernel_rfl) rfl #[.slice A13 l13.length c13] rfl (by (try simp only [List.map_toArray, List.map_cons, List.map_nil]); first | done | rfl) ?_; refine (laws_toDirentS.calls (l13.length + 1) A13 c13 l13 (dirs l13) _ (cbel C13 SB HB) HC13.out F13.out).mono ?_; rintro e_ wm ⟨v13, rfl, o_, b_⟩; refine ⟨_, rfl, ?_⟩; have H1n := Aside0.mk (blk_below H1.out b_); have H2n := Aside0.mk (blk_below H2.out b_); have H3n := Aside0.mk (blk_below H3.out b_); have HBn := Aside0.mk (below_then HB.out (by have := ST.out; omega) b_); have OVn := Aside0.mk (Kd.R_below OV.out b_); have hb6_ := b_.size; rw [ST.out] at hb6_; have OD0 := own_btw (B := s0) (s := s5) o_ (by exact ST.out) ⟨rfl⟩ (by rw [ST.out]; omega); obtain ⟨s6, h6_⟩ : ∃ s, wm.heap.size = s := ⟨_, rfl⟩; rw [h6_] at OD0 hb6_; have OD := OD0; clear OD0 ST; have ST := Aside0.mk h6_; clear h6_ o_; obtain ⟨Ad, cd, rfl⟩ := Kd.R_slice OD.out; clear b_; clear H1 H2 H3 HB OV; have H1 := H1n; have H2 := H2n; have H3 := H3n; have HB := HBn; have OV := OVn; clear H1n H2n H3n HBn OVn) | ((with_reducible refine gate_store (t := 33) (p := 21) (v := .tmp 20) rfl ?_); refine wpList_st rfl rfl 33 (.tmp 21) (.tmp 20) rfl s2 13 rfl (.slice Ad (dirs l13).length cd) rfl [.slice Ad (dirs l13).length cd] (ansC c n (.slice Av l2.length cv) st (.slice Ad (dirs l13).length cd) zz).toArray rfl (show (Tryd.prog.info? 33).map (·.size) = some 1 by kernel_rfl) rfl H3.out (by rw [ansC_size NS.out NZ.out]; exact Nat.le_of_ble_eq_true rfl) (ansC_set13 NS.out _) ?_; intro w_ t_ g_; have H3n := Aside0.mk g_; have H1n := Aside0.mk (t_.keep (show s0 ≠ s2 by omega) H1.out); have H2n := Aside0.mk (t_.keep (show s1 ≠ s2 by omega) H2.out); have HBn := Aside0.mk (t_.below HB.out (by omega)); have OVn := Aside0.mk (Kd.R_kept OV.out (kept_touch t_) (fun k_ hk_ (he_ : k_ = s2) => by have := hk_.1; omega)); have ODn := Aside0.mk (Kd.R_kept OD.out (kept_touch t_) (fun k_ hk_ (he_ : k_ = s2) => by have := hk_.1; omega)); have STn := Aside0.mk (t_.size.trans ST.out); clear t_ g_; clear H1 H2 H3 HB ST OV OD; have H1 := H1n; have H2 := H2n; have H3 := H3n; have HB := HBn; have ST := STn; have OV := OVn; have OD := ODn; clear H1n H2n H3n HBn STn OVn ODn) | ((with_reducible refine gate_dst (N := 23) rfl ?_); refine wpList_ld rfl 27 (.tmp 22) rfl s0 14 10 rfl (nums .i64 us).toArray Tryd.underlying27 rfl (by kernel_rfl) H1.out (by rw [ansC_size NS.out NU.out]; decide) (ansC_us NS.out NU.out) ?_) | ((with_reducible refine gate_dst (N := 24) rfl ?_); refine goesL_ (some 24) rfl rfl Tryd.func49 (by kernel_rfl) rfl #[.agg (nums .i64 us).toArray] rfl (by (try simp only [List.map_toArray, List.map_cons, List.map_nil]); first | done | rfl) ?_; refine (toUsage_told us NU.out _).mono ?_; rintro e_ wm ⟨rfl, b_⟩; refine ⟨_, rfl, ?_⟩; have H1n := Aside0.mk (blk_below H1.out b_); have H2n := Aside0.mk (blk_below H2.out b_); have H3n := Aside0.mk (blk_below H3.out b_); have HBn := Aside0.mk (below_then HB.out (by have := ST.out; omega) b_); have OVn := Aside0.mk (Kd.R_below OV.out b_); have ODn := Aside0.mk (Kd.R_below OD.out b_); obtain ⟨s7, h7_⟩ : ∃ s, wm.heap.size = s := ⟨_, rfl⟩; have hb7_ := b_.size; rw [h7_, ST.out] at hb7_; clear ST; have ST := Aside0.mk h7_; clear h7_; clear b_; clear H1 H2 H3 HB OV OD; have H1 := H1n; have H2 := H2n; have H3 := H3n; have HB := HBn; have OV := OVn; have OD := ODn; clear H1n H2n H3n HBn OVn ODn) | ((with_reducible refine gate_store (t := 34) (p := 25) (v := .tmp 24) rfl ?_); refine wpList_st rfl rfl 34 (.tmp 25) (.tmp 24) rfl s2 14 rfl (.agg (nums .i64 us).toArray) rfl (nums .i64 us) (ansC c n (.slice Av l2.length cv) st (.slice Ad (dirs l13).length cd) us).toArray (by simp [Value.cells]) (by rw [show (nums .i64 us).length = 10 by simp [nums, NU.out]]; kernel_rfl) (by simpa using nums_one .i64 us) H3.out (by rw [ansC_size NS.out NZ.out]; rw [show (nums .i64 us).length = 10 by simp [nums, NU.out]]; decide) (ansC_set14 NS.out NZ.out NU.out) ?_; intro w_ t_ g_; have H3n := Aside0.mk g_; have H1n := Aside0.mk (t_.keep (show s0 ≠ s2 by omega) H1.out); have H2n := Aside0.mk (t_.keep (show s1 ≠ s2 by omega) H2.out); have HBn := Aside0.mk (t_.below HB.out (by omega)); have OVn := Aside0.mk (Kd.R_kept OV.out (kept_touch t_) (fun k_ hk_ (he_ : k_ = s2) => by have := hk_.1; omega)); have ODn := Aside0.mk (Kd.R_kept OD.out (kept_touch t_) (fun k_ hk_ (he_ : k_ = s2) => by have := hk_.1; omega)); have STn := Aside0.mk (t_.size.trans ST.out); clear t_ g_; clear H1 H2 H3 HB ST OV OD; have H1 := H1n; have H2 := H2n; have H3 := H3n; have HB := HBn; have ST := STn; have OV := OVn; have OD := ODn; clear H1n H2n H3n HBn STn OVn ODn) | ((with_reducible refine gate_dst (N := 26) rfl ?_); refine hx_load rfl 36 (.tmp 3) rfl s2 24 rfl Tryd.underlying36 rfl (by kernel_rfl) H3.out (ansC_size NS.out NU.out) ?_) | ((with_reducible refine gate_store (t := 36) (p := 2) (v := .tmp 26) rfl ?_); refine hx_store rfl rfl 36 (.tmp 2) (.tmp 26) rfl s1 24 rfl (ansC c n (.slice Av l2.length cv) st (.slice Ad (dirs l13).length cd) us).toArray rfl (by kernel_rfl) (ansC_size NS.out NU.out) (ansC_one rfl rfl) H2.out (ansC_size NZ.out NZ.out) ?_; intro we t_ g_; have HE := Aside0.mk g_; have HEB := Aside0.mk (t_.below HB.out (by omega)); have OVE := Aside0.mk (Kd.R_kept OV.out (kept_touch t_) (fun k_ hk_ (he_ : k_ = s1) => by have := hk_.1; omega)); have ODE := Aside0.mk (Kd.R_kept OD.out (kept_touch t_) (fun k_ hk_ (he_ : k_ = s1) => by have := hk_.1; omega)); clear t_ g_ H2 HB OV OD))
  exact bodyPost_ret (results_cell_row rfl _ _ s1 36 _ (0, 0) _ rfl HE.out Tryd.underlying36 rfl (by rw [ansC_size NS.out NU.out]; kernel_rfl)) rfl ⟨_, _, rfl, Kd.R_mono OVE.out (fun _ _ => trivial), Kd.R_mono ODE.out (fun _ _ => trivial), HEB.out⟩
end Go.Proofs.YtknlpjoidjgciaaDoor.PFnExactTellAns
