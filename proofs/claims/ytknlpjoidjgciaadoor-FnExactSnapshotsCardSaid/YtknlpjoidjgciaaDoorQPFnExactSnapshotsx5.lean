/- PFnExactSnapshotsx5: functions of the law, walked; written by a program of this session. No condition. -/
import Derived.Test.YtknlpjoidjgciaaDoorQPFnExactSnapshotsx0
import Derived.Test.YtknlpjoidjgciaaDoorQPFnExactSnapshotsx2
import Derived.Test.YtknlpjoidjgciaaDoorQPFnExactSnapshotsx3
import Derived.Test.YtknlpjoidjgciaaDoorQPFnExactSnapshotsx4
namespace Go.Proofs.YtknlpjoidjgciaaDoor.PFnExactSnapshots
open Go.RowKit Go.Proofs.YtknlpjoidjgciaaDoorW.PrintWords Go.Proofs.YtknlpjoidjgciaaDoorW.PrintLast Go.Proofs.YtknlpjoidjgciaaDoorW.PrintMore
attribute [local go_sem] max2_int min2_int max_two min_two max_three min_three max_four min_four
set_option linter.unusedVariables false
set_option linter.unusedSimpArgs false
open Go.Proofs.YtknlpjoidjgciaaDoorW Go.Proofs.YtknlpjoidjgciaaDoorW.PrintHand Go.Proofs.YtknlpjoidjgciaaDoorW.PrintHx
open Go.Proofs.YtknlpjoidjgciaaDoorW.PrintLe Go.Proofs.YtknlpjoidjgciaaDoorW.PrintGrow Go.Proofs.YtknlpjoidjgciaaDoorW.PrintIno Go.Proofs.YtknlpjoidjgciaaDoorW.PrintFsi Go.Proofs.YtknlpjoidjgciaaDoorW.PrintFsb Go.Proofs.YtknlpjoidjgciaaDoorW.PrintCrc
theorem l02Fill_l0 (n : Nat) (hn : n ≤ 1048576) : ∀ (d k : Nat) (l : List Int), l.length + d = n → d < k → spec_l02Fill.l0 k (n : Int) l = some (l ++ List.replicate d 0)
  | 0, k, l, h1, h2 => by
    obtain ⟨k, rfl⟩ := sucK h2
    simp only [spec_l02Fill.l0]
    rw [if_neg (by omega)]
    simp
  | d + 1, k, l, h1, h2 => by
    obtain ⟨k, rfl⟩ := sucK h2
    simp only [spec_l02Fill.l0]
    rw [if_pos (by omega), if_pos (by omega), l02Fill_l0 n hn d k _ (by rw [List.length_append, List.length_singleton]; omega) (by omega), List.append_assoc]
    rfl
theorem l02Fill_f (l : List Int) (n d k : Nat) (hn : n ≤ 1048576) (hl : l.length + d = n) (hk : d < k) : spec_l02Fill.f k l (n : Int) = some (l ++ List.replicate d 0) := by
  unfold spec_l02Fill.f
  simp only [Option.bind_some]
  rw [if_pos (by simp; omega), List.nil_append]
  exact l02Fill_l0 n hn d k l hl hk
def sumL : List (List Int) → Nat
  | [] => 0
  | x :: r => x.length + sumL r
theorem sumL_flatten (a : List (List Int)) : sumL a = a.flatten.length := by
  induction a with
  | nil => simp [sumL]
  | cons x a ih => simp [sumL, ih]
theorem l02Join_l0 (xs : List (List Int)) (hx : xs.length ≤ 1048576) : ∀ (d i k : Nat) (out : List Int), i + d = xs.length → d < k → out.length + sumL (xs.drop i) < 140737488355328 → spec_l02Join.l0 k out xs (xs.length : Int) (i : Int) = some (out ++ (xs.drop i).flatten)
  | 0, i, k, out, h1, h2, h3 => by
    obtain ⟨k, rfl⟩ := sucK h2
    simp only [spec_l02Join.l0]
    rw [if_neg (by omega), List.drop_eq_nil_of_le (by omega)]
    simp
  | d + 1, i, k, out, h1, h2, h3 => by
    obtain ⟨k, rfl⟩ := sucK h2
    simp only [spec_l02Join.l0]
    have hi : i < xs.length := by omega
    have hr : rd_L1 xs (i : Int) = xs[i] := by simp [rd_L1, hi]
    have hd := List.drop_eq_getElem_cons hi
    rw [hd, sumL] at h3
    rw [if_pos (by omega), if_pos (by omega), if_pos (by omega), hr, if_pos (by omega), w64n (by omega), l02Join_l0 xs hx d (i + 1) k _ (by omega) (by omega) (by rw [List.length_append]; omega), List.append_assoc]
    conv => rhs; rw [hd, List.flatten_cons]
theorem l02Join_f (xs : List (List Int)) (k : Nat) (hx : xs.length ≤ 1048576) (hk : xs.length < k) (hl : sumL xs < 140737488355328) : spec_l02Join.f k xs = some xs.flatten := by
  unfold spec_l02Join.f
  have h := l02Join_l0 xs hx xs.length 0 k [] (by omega) hk (by simpa using hl)
  simpa using h
theorem table_l0 : ∀ (d i k n : Nat), i + d = 8 → d < k → n < 4294967296 → spec_l02Table.l0 k (n : Int) (i : Int) = some ((stepN d n : Nat) : Int)
  | 0, i, k, n, h1, h2, h3 => by
    obtain ⟨k, rfl⟩ := sucK h2
    simp only [spec_l02Table.l0]
    rw [if_neg (by omega)]
    rfl
  | d + 1, i, k, n, h1, h2, h3 => by
    obtain ⟨k, rfl⟩ := sucK h2
    have e1 : Int.tmod (n : Int) 2 = ((n % 2 : Nat) : Int) := by rw [Int.tmod_eq_emod_of_nonneg (by omega)]; omega
    have e2 : Int.tdiv (n : Int) 2 % 4294967296 = ((n / 2 : Nat) : Int) := by rw [Int.tdiv_eq_ediv_of_nonneg (by omega)]; omega
    have e3 : (3988292384 : Int) = ((3988292384 : Nat) : Int) := rfl
    simp only [spec_l02Table.l0]
    rw [if_pos (by omega), e1, e2, w64n (by omega)]
    by_cases hp : n % 2 = 1
    · rw [if_pos (by omega), e3, xor_nat _ _ (by omega) (by omega), table_l0 d (i + 1) k _ (by omega) (by omega) (by have := stepB_lt h3; unfold stepB at this; rw [if_pos hp] at this; exact this)]
      simp only [stepN, stepB, if_pos hp]
    · rw [if_neg (by omega), table_l0 d (i + 1) k _ (by omega) (by omega) (by omega)]
      simp only [stepN, stepB, if_neg hp, Nat.xor_zero]
theorem table_f (n k : Nat) (hk : 8 < k) (hn : n < 4294967296) : spec_l02Table.f k (n : Int) = some ((stepN 8 n : Nat) : Int) := table_l0 8 0 k n rfl hk hn
theorem specCrc_l0 (l : List Int) (hb : ∀ x ∈ l, 0 ≤ x ∧ x ≤ 255) (hl : l.length ≤ 1048576) : ∀ (d i k n : Nat), i + d = l.length → d + 10 < k → n < 4294967296 → spec_Crc32.l0 k (n : Int) l (l.length : Int) (i : Int) = some (Go.bits .xor .u32 ((crcS n (nats (l.drop i)) : Nat) : Int) 4294967295)
  | 0, i, k, n, h1, h2, h3 => by
    obtain ⟨k, rfl⟩ := sucK h2
    simp only [spec_Crc32.l0]
    rw [if_neg (by omega), List.drop_eq_nil_of_le (by omega)]
    rfl
  | d + 1, i, k, n, h1, h2, h3 => by
    obtain ⟨k, rfl⟩ := sucK h2
    have hi : i < l.length := by omega
    have hx := hb _ (List.getElem_mem hi)
    obtain ⟨c, hc⟩ := Int.eq_ofNat_of_zero_le hx.1
    have hc8 : c < 256 := by omega
    simp only [spec_Crc32.l0]
    have hlt : n ^^^ c < 2 ^ 32 := Nat.xor_lt_two_pow (by omega) (by omega)
    rw [if_pos (by omega), if_pos (by omega), if_pos (by omega), rd_some hi, hc, show (c : Int) % 4294967296 = (c : Int) by omega, xor_nat _ _ h3 (by omega), Int.tmod_eq_emod_of_nonneg (by omega), show (((n ^^^ c : Nat) : Int) % 256) = (((n ^^^ c) % 256 : Nat) : Int) by omega, table_f _ k (by omega) (by omega), Option.bind_some, Int.tdiv_eq_ediv_of_nonneg (by omega), show ((n : Int) / 256 % 4294967296) = ((n / 256 : Nat) : Int) by omega, xor_nat _ _ (by omega) (stepN_lt 8 (by omega)), w64n (by omega), specCrc_l0 l hb hl d (i + 1) k _ (by omega) (by omega) (by rw [byte_step n c hc8]; exact stepN_lt 8 (by omega)), List.drop_eq_getElem_cons hi]
    simp only [nats, List.map_cons, hc, Int.toNat_natCast, crcS]
theorem specCrc_f (l : List Int) (hb : ∀ x ∈ l, 0 ≤ x ∧ x ≤ 255) (hl : l.length ≤ 1048576) (k : Nat) (hk : l.length + 10 < k) : spec_Crc32.f k l = some (Go.bits .xor .u32 ((crcS 4294967295 (nats l) : Nat) : Int) 4294967295) := by
  unfold spec_Crc32.f
  exact specCrc_l0 l hb hl l.length 0 k 4294967295 (by omega) hk (by omega)
theorem specCrc_v (l : List Int) (hb : ∀ x ∈ l, 0 ≤ x ∧ x ≤ 255) (hl : l.length ≤ 1048576) (k : Nat) (hk : l.length + 10 < k) : spec_Crc32.f k l = some (crcV l) := by
  have hlt := crcI_lt (nats l) (nats_byt hb) 4294967295 (by omega)
  have e : (4294967295 : Int) = ((4294967295 : Nat) : Int) := rfl
  rw [specCrc_f l hb hl k hk, crc_eq _ (nats_byt hb), e, xor_nat _ _ hlt (by omega)]
  rfl
theorem spec_EncodeFsinfo.sealed {a0 : List Int} (h : a0.length = 68) : spec_l02Sealed.f 2000 (fsBody a0) = some (fsFill a0 ++ leB (crcV (fsFill a0)) 4) := by
  have hb := fsFill_byt a0
  have hl := fsFill_length h
  have hr := crcV_range hb
  unfold spec_l02Sealed.f
  rw [show spec_l02Fill.f 2000 (fsBody a0) 508 = some (fsFill a0) from l02Fill_f (fsBody a0) 508 208 2000 (by decide) (by rw [fsBody_length h]) (by decide)]
  simp only [Option.bind_some]
  rw [specCrc_v (fsFill a0) hb (by rw [hl]; decide) 2000 (by rw [hl]; decide)]
  simp only [Option.bind_some]
  rw [w64 (by omega) (by omega), show spec_l02Put.f 2000 (crcV (fsFill a0)) 4 = some (leB (crcV (fsFill a0)) 4) from l02Put_f _ 4 2000 (by decide) hr.1 (by omega) (by decide)]
  simp only [Option.bind_some]
  rw [if_pos (by rw [hl, leB_length]; decide)]
def spec_EncodeFsinfo.f (a0 : List Int) : Option (List Int × Int) := some (if fsGood a0 = true then (fsFill a0 ++ leB (crcV (fsFill a0)) 4, 0) else ([], 7))
set_option maxHeartbeats 8000000 in
set_option maxRecDepth 100000 in
theorem spec_EncodeFsinfo.calls (a0 : List Int) (n0 : a0.length = 68) (r1 : List Int) (r2 : Int) (w : World) (h : spec_EncodeFsinfo.f a0 = some (r1, r2)) :
    Calls Tryd.prog 131 #[.agg (nums .i64 a0).toArray] w fun e w' => ∃ v0_ : Value, e = .returned (.tuple #[v0_, .int .i64 r2]) ∧ Kd.R (Kd.int .u8) 5 w' w.heap.size (fun _ => True) v0_ r1 ∧ Below w.heap.size w w' := by
  unfold spec_EncodeFsinfo.f at h
  have N_ := Aside0.mk n0
  have HB0 : Aside0 (Below w.heap.size w w) := ⟨Below.refl _ _⟩
  obtain ⟨s0, Sz0⟩ : ∃ s0, Aside0 (w.heap.size = s0) := ⟨_, ⟨rfl⟩⟩
  have hw0 : w.heap.size ≤ s0 := Nat.le_of_eq Sz0.out
  have hw1 : s0 ≤ w.heap.size := Nat.le_of_eq Sz0.out.symm
  by_cases hgood : fsGood a0 = true
  case neg =>
    rw [if_neg hgood] at h
    simp only [Option.some.injEq, Prod.mk.injEq] at h
    obtain ⟨rfl, rfl⟩ := h
    have HG := Aside0.mk (show spec_l02Fsinfo.f a0 = some false by rw [show false = fsGood a0 by simpa using hgood]; rfl)
    clear hgood n0
    go_enter Tryd.func131, Tryd.ntmps131
    go_wp2_with (first | ((with_reducible refine gate_dst (N := 1) rfl ?_); refine hx_box rfl 1 rfl 127 (.tmp 0) rfl Sz0 (.agg (nums .i64 a0).toArray) (nums .i64 a0).toArray rfl rfl ?_; intro w1 s1 L1 Sz1 b1 g_; have H_1 := Aside0.mk g_; have HB1 := Aside0.mk (below_then HB0.out HB0.out.size b1); clear g_ HB0 b1) | ((with_reducible refine gate_dst (N := 7) rfl ?_); refine hx_load rfl 127 (.tmp 1) rfl s0 68 rfl Tryd.underlying127 rfl (by kernel_rfl) H_1.out (nums_size _ _ _ N_.out) ?_) | ((with_reducible refine gate_dst (N := 8) rfl ?_); refine goesL_ (some 8) rfl rfl Tryd.func160 (by kernel_rfl) rfl #[.agg (nums .i64 a0).toArray] rfl (by (try simp only [List.map_toArray, List.map_cons, List.map_nil]); first | done | rfl) ?_; refine (spec_l02Fsinfo.calls a0 N_.out false _ HG.out).mono ?_; rintro e_ w2 ⟨rfl, b_⟩; refine ⟨_, rfl, ?_⟩; have HB2 := Aside0.mk (below_then HB1.out HB1.out.size b_); have H_2 := Aside0.mk (blk_below H_1.out b_); clear b_ HB1 H_1))
    go_ret2
    exact ⟨_, rfl, Kd.R_nil _ _ _ _ _, HB2.out⟩
  rw [if_pos hgood] at h
  simp only [Option.some.injEq, Prod.mk.injEq] at h
  obtain ⟨rfl, rfl⟩ := h
  have HG := Aside0.mk (show spec_l02Fsinfo.f a0 = some true by rw [← hgood]; rfl)
  have HSE := Aside0.mk (spec_EncodeFsinfo.sealed n0)
  have HHL := Aside0.mk (fsHead_length n0)
  have HBB := Aside0.mk (show fsBody a0 = fsHead a0 ++ flat4 (fsS a0) from rfl)
  obtain ⟨g0, g1, g2, g3, g4, g5, g6, g7, g8, g9⟩ := fsGood_get hgood
  have GS := Aside0.mk (fun j hj => fsS_get hgood n0 j hj)
  have info5_ : (Tryd.prog.info? 5).map (fun i => (i.zero, i.size, i.bytes)) = some (some (.int .u8 0), 1, 1) := by kernel_rfl
  obtain ⟨x0, hx0⟩ : ∃ x, x = a0.getD 0 0 := ⟨_, rfl⟩
  obtain ⟨x1, hx1⟩ : ∃ x, x = a0.getD 1 0 := ⟨_, rfl⟩
  obtain ⟨x2, hx2⟩ : ∃ x, x = a0.getD 2 0 := ⟨_, rfl⟩
  obtain ⟨x3, hx3⟩ : ∃ x, x = a0.getD 3 0 := ⟨_, rfl⟩
  obtain ⟨x4, hx4⟩ : ∃ x, x = a0.getD 4 0 := ⟨_, rfl⟩
  obtain ⟨x5, hx5⟩ : ∃ x, x = a0.getD 5 0 := ⟨_, rfl⟩
  obtain ⟨x6, hx6⟩ : ∃ x, x = a0.getD 6 0 := ⟨_, rfl⟩
  obtain ⟨xi, hxi⟩ : ∃ x, x = fsI a0 := ⟨_, rfl⟩
  obtain ⟨xm, hxm⟩ : ∃ x, x = fsM a0 := ⟨_, rfl⟩
  obtain ⟨xs, hxs⟩ : ∃ x, x = fsS a0 := ⟨_, rfl⟩
  have NXI := Aside0.mk (show xi.length = 15 by rw [hxi]; exact fsI_length n0)
  have NXM := Aside0.mk (show xm.length = 15 by rw [hxm]; exact fsM_length n0)
  have NXS := Aside0.mk (show xs.length = 31 by rw [hxs]; exact fsS_length n0)
  rw [← hx0] at g0
  rw [← hx1] at g1
  rw [← hx2] at g2
  rw [← hx3] at g3
  rw [← hx4] at g4
  rw [← hx5] at g5
  rw [← hx6] at g6
  rw [← hxi] at g7
  rw [← hxm] at g8
  rw [← hxs] at GS HBB
  have E0 := Aside0.mk (show spec_l02Put.f 20 x0 8 = some (leB x0 8) from l02Put_f x0 8 20 (by decide) (by omega) (by omega) (by decide))
  have E1 := Aside0.mk (show spec_l02Put.f 20 x1 4 = some (leB x1 4) from l02Put_f x1 4 20 (by decide) (by omega) (by omega) (by decide))
  have E2 := Aside0.mk (show spec_l02Put.f 20 x2 4 = some (leB x2 4) from l02Put_f x2 4 20 (by decide) (by omega) (by omega) (by decide))
  have E3 := Aside0.mk (show spec_l02Put.f 20 x3 8 = some (leB x3 8) from l02Put_f x3 8 20 (by decide) (by omega) (by omega) (by decide))
  have E4 := Aside0.mk (show spec_l02Put.f 20 x4 8 = some (leB x4 8) from l02Put_f x4 8 20 (by decide) (by omega) (by omega) (by decide))
  have E5 := Aside0.mk (show spec_l02Put.f 20 x5 4 = some (leB x5 4) from l02Put_f x5 4 20 (by decide) (by omega) (by omega) (by decide))
  have E6 := Aside0.mk (show spec_l02Put.f 20 x6 4 = some (leB x6 4) from l02Put_f x6 4 20 (by decide) (by omega) (by omega) (by decide))
  have ER7 := Aside0.mk (show spec_l02RootBytes.f xi = some (rootBytes xi) from if_pos g7)
  have ER8 := Aside0.mk (show spec_l02RootBytes.f xm = some (rootBytes xm) from if_pos g8)
  obtain ⟨fl, hfl⟩ : ∃ fl, fl = ([magicF, leB x0 8, leB x1 4, leB x2 4, leB x3 8, leB x4 8, leB x5 4, leB x6 4, rootBytes xi, rootBytes xm] : List (List Int)).flatten := ⟨_, rfl⟩
  have hfh : fsHead a0 = fl := by unfold fsHead fsParts; rw [hfl, ← hx0, ← hx1, ← hx2, ← hx3, ← hx4, ← hx5, ← hx6, ← hxi, ← hxm]
  rw [hfh] at HHL HBB
  have EJ := Aside0.mk (show spec_l02Join.f 20 [magicF, leB x0 8, leB x1 4, leB x2 4, leB x3 8, leB x4 8, leB x5 4, leB x6 4, rootBytes xi, rootBytes xm] = some fl by rw [hfl]; exact l02Join_f _ 20 (by simp) (by simp) (by rw [sumL_flatten, ← hfl, HHL.out]; decide))
  have X0 := Aside0.mk hx0
  have X1 := Aside0.mk hx1
  have X2 := Aside0.mk hx2
  have X3 := Aside0.mk hx3
  have X4 := Aside0.mk hx4
  have X5 := Aside0.mk hx5
  have X6 := Aside0.mk hx6
  have XI := Aside0.mk (show xi = seg a0 7 15 from hxi)
  have XM := Aside0.mk (show xm = seg a0 22 15 from hxm)
  have XS := Aside0.mk (show xs = seg a0 37 31 from hxs)
  clear n0 hx0 hx1 hx2 hx3 hx4 hx5 hx6 hxi hxm hxs hfl hfh hgood g0 g1 g2 g3 g4 g5 g6 g7 g8 g9
  go_enter Tryd.func131, Tryd.ntmps131
  go_wp2_with (first | ((with_reducible refine gate_dst (N := 1) rfl ?_); refine hx_box rfl 1 rfl 127 (.tmp 0) rfl Sz0 (.agg (nums .i64 a0).toArray) (nums .i64 a0).toArray rfl rfl ?_; intro w1 s1 L1 Sz1 b1 g_; have H_1 := Aside0.mk g_; have HB1 := Aside0.mk (below_then HB0.out HB0.out.size b1); clear g_ HB0 b1) | ((with_reducible refine gate_dst (N := 7) rfl ?_); refine hx_load rfl 127 (.tmp 1) rfl s0 68 rfl Tryd.underlying127 rfl (by kernel_rfl) H_1.out (nums_size _ _ _ N_.out) ?_) | ((with_reducible refine gate_dst (N := 8) rfl ?_); refine goesL_ (some 8) rfl rfl Tryd.func160 (by kernel_rfl) rfl #[.agg (nums .i64 a0).toArray] rfl (by (try simp only [List.map_toArray, List.map_cons, List.map_nil]); first | done | rfl) ?_; refine (spec_l02Fsinfo.calls a0 N_.out true _ HG.out).mono ?_; rintro e_ w2 ⟨rfl, b_⟩; refine ⟨_, rfl, ?_⟩; have HB2 := Aside0.mk (below_then HB1.out HB1.out.size b_); have H_2 := Aside0.mk (blk_below H_1.out b_); clear b_ HB1 H_1))
  have HBS := Aside0.mk HB2.out.size
  refine wp_region_grow_tailS 29 [LitB w2.heap.size (nums .u8 magicF).toArray 5 8, Row (Kd.int .u8) magicF, Is (.pointer (some ⟨s0, 0, none⟩)), Is (.int .i64 x0), Row (Kd.int .u8) (leB x0 8), Is (.pointer (some ⟨s0, 1, none⟩)), Is (.int .i64 x1), Row (Kd.int .u8) (leB x1 4), Is (.pointer (some ⟨s0, 2, none⟩)), Is (.int .i64 x2), Row (Kd.int .u8) (leB x2 4), Is (.pointer (some ⟨s0, 3, none⟩)), Is (.int .i64 x3), Row (Kd.int .u8) (leB x3 8), Is (.pointer (some ⟨s0, 4, none⟩)), Is (.int .i64 x4), Row (Kd.int .u8) (leB x4 8), Is (.pointer (some ⟨s0, 5, none⟩)), Is (.int .i64 x5), Row (Kd.int .u8) (leB x5 4), Is (.pointer (some ⟨s0, 6, none⟩)), Is (.int .i64 x6), Row (Kd.int .u8) (leB x6 4), Is (.pointer (some ⟨s0, 7, none⟩)), Is (.agg (nums .i64 xi).toArray), Row (Kd.int .u8) (rootBytes xi), Is (.pointer (some ⟨s0, 22, none⟩)), Is (.agg (nums .i64 xm).toArray), Row (Kd.int .u8) (rootBytes xm)] (by kernel_rfl) (by kernel_rfl) (by kernel_rfl) (by kernel_rfl) (allstS_cons stS_lit (allstS_cons stS_row (allstS_cons stS_is (allstS_cons stS_is (allstS_cons stS_row (allstS_cons stS_is (allstS_cons stS_is (allstS_cons stS_row (allstS_cons stS_is (allstS_cons stS_is (allstS_cons stS_row (allstS_cons stS_is (allstS_cons stS_is (allstS_cons stS_row (allstS_cons stS_is (allstS_cons stS_is (allstS_cons stS_row (allstS_cons stS_is (allstS_cons stS_is (allstS_cons stS_row (allstS_cons stS_is (allstS_cons stS_is (allstS_cons stS_row (allstS_cons stS_is (allstS_cons stS_is (allstS_cons stS_row (allstS_cons stS_is (allstS_cons stS_is (allstS_cons stS_row allstS_nil))))))))))))))))))))))))))))) ?_ (fun w3 hgn => ?_)
  · refine stepsS_cons ?_ ?_
    · refine stepS_of (stepO_run rfl [] [] (by kernel_rfl) (fun a w_ hg hf => ?_))
      refine ⟨.slice (some ⟨w_.heap.size, 0, none⟩) 8 8, w_.alloc (.cells (nums .u8 magicF).toArray 5), ?_, below_alloc (Below.refl _ _) _, ⟨_, _, hg.size, rfl, blk_new w_ _⟩⟩
      unfold execOp
      go_simp
      (try rfl)
    refine stepsS_cons ?_ ?_
    · refine stepS_run rfl [(0, 10)] [] (by kernel_rfl) (fun a w_ hg hf => ?_)
      obtain ⟨⟨⟨v10, e10, p10⟩, _⟩, _⟩ := hf
      replace e10 : a.tmps[10]? = some (v10) := e10
      obtain ⟨g10, fr10, hB10, rfl, hh10⟩ := p10
      refine ⟨.slice (some ⟨g10, 0, none⟩) 8 8, _, ?_, soft_freeze (p := ⟨g10, (nums .u8 magicF).toArray.size, none⟩) hB10 1, stS_row _ _ _ (soft_freeze (p := ⟨g10, (nums .u8 magicF).toArray.size, none⟩) hB10 1) (lit_row (k := .u8) magicF hh10 (by decide))⟩
      have h_ := run_convert_mark (P := Tryd.prog) w_ 22 5 _ fr10 g10 8 8 Tryd.underlying22 Tryd.underlying5 hh10
      unfold execOp
      simp only [PrintLast.eval_of e10, Sem.run_bind, h_, Result.andThen_ok, Sem.run_pure]
      (try rfl)
    refine stepsS_cons ?_ ?_
    · refine stepS_of (stepO_val rfl [] [1] (by kernel_rfl) (.pointer (some ⟨s0, 0, none⟩)) (fun a w_ hg hf => ?_) (fun w_ _ => rfl))
      obtain ⟨_, ⟨o1, _⟩⟩ := hf
      have e1 : a.tmps[1]? = some (.pointer (some ⟨s0, 0, none⟩)) := o1.trans rfl
      unfold execOp
      simp only [PrintLast.eval_of e1, Act.eval]
      go_simp
      (try rfl)
    refine stepsS_cons ?_ ?_
    · refine stepS_of (stepO_val rfl [(2, 12)] [] (by kernel_rfl) (.int .i64 x0) (fun a w_ hg hf => ?_) (fun w_ _ => rfl))
      obtain ⟨⟨⟨_, e12, rfl⟩, _⟩, _⟩ := hf
      replace e12 : a.tmps[12]? = some (.pointer (some ⟨s0, 0, none⟩)) := e12
      have c_ : w_.cell? ⟨s0, 0, none⟩ = some (.int .i64 x0) := by have h_ := row_cell (blk_below H_2.out hg) 0 (lt_len (n := 68) N_.out (by decide)); rw [← X0.out] at h_; exact h_
      unfold execOp
      simp only [PrintLast.eval_of e12, Act.eval]
      go_simp
      (try rfl)
    refine stepsS_cons ?_ ?_
    · refine stepS_of (stepO_call rfl [(3, 13)] [] (by kernel_rfl) Tryd.func137 (by kernel_rfl) rfl rfl (fun a w_ hg hf => ?_))
      obtain ⟨⟨⟨_, e13, rfl⟩, _⟩, _⟩ := hf
      replace e13 : a.tmps[13]? = some (.int .i64 x0) := e13
      refine ⟨#[.int .i64 x0, .int .i64 8], (by simp only [List.map_toArray, List.map_cons, List.map_nil, PrintLast.eval_of e13]; first | done | rfl), (spec_l02Put.calls 20 x0 8 (leB x0 8) w_ E0.out).mono ?_⟩
      rintro e_ w2_ ⟨v_, rfl, R_, b_⟩
      exact ⟨_, rfl, b_, own_row R_⟩
    refine stepsS_cons ?_ ?_
    · refine stepS_of (stepO_val rfl [] [1] (by kernel_rfl) (.pointer (some ⟨s0, 1, none⟩)) (fun a w_ hg hf => ?_) (fun w_ _ => rfl))
      obtain ⟨_, ⟨o1, _⟩⟩ := hf
      have e1 : a.tmps[1]? = some (.pointer (some ⟨s0, 0, none⟩)) := o1.trans rfl
      unfold execOp
      simp only [PrintLast.eval_of e1, Act.eval]
      go_simp
      (try rfl)
    refine stepsS_cons ?_ ?_
    · refine stepS_of (stepO_val rfl [(5, 15)] [] (by kernel_rfl) (.int .i64 x1) (fun a w_ hg hf => ?_) (fun w_ _ => rfl))
      obtain ⟨⟨⟨_, e15, rfl⟩, _⟩, _⟩ := hf
      replace e15 : a.tmps[15]? = some (.pointer (some ⟨s0, 1, none⟩)) := e15
      have c_ : w_.cell? ⟨s0, 1, none⟩ = some (.int .i64 x1) := by have h_ := row_cell (blk_below H_2.out hg) 1 (lt_len (n := 68) N_.out (by decide)); rw [← X1.out] at h_; exact h_
      unfold execOp
      simp only [PrintLast.eval_of e15, Act.eval]
      go_simp
      (try rfl)
    refine stepsS_cons ?_ ?_
    · refine stepS_of (stepO_call rfl [(6, 16)] [] (by kernel_rfl) Tryd.func137 (by kernel_rfl) rfl rfl (fun a w_ hg hf => ?_))
      obtain ⟨⟨⟨_, e16, rfl⟩, _⟩, _⟩ := hf
      replace e16 : a.tmps[16]? = some (.int .i64 x1) := e16
      refine ⟨#[.int .i64 x1, .int .i64 4], (by simp only [List.map_toArray, List.map_cons, List.map_nil, PrintLast.eval_of e16]; first | done | rfl), (spec_l02Put.calls 20 x1 4 (leB x1 4) w_ E1.out).mono ?_⟩
      rintro e_ w2_ ⟨v_, rfl, R_, b_⟩
      exact ⟨_, rfl, b_, own_row R_⟩
    refine stepsS_cons ?_ ?_
    · refine stepS_of (stepO_val rfl [] [1] (by kernel_rfl) (.pointer (some ⟨s0, 2, none⟩)) (fun a w_ hg hf => ?_) (fun w_ _ => rfl))
      obtain ⟨_, ⟨o1, _⟩⟩ := hf
      have e1 : a.tmps[1]? = some (.pointer (some ⟨s0, 0, none⟩)) := o1.trans rfl
      unfold execOp
      simp only [PrintLast.eval_of e1, Act.eval]
      go_simp
      (try rfl)
    refine stepsS_cons ?_ ?_
    · refine stepS_of (stepO_val rfl [(8, 18)] [] (by kernel_rfl) (.int .i64 x2) (fun a w_ hg hf => ?_) (fun w_ _ => rfl))
      obtain ⟨⟨⟨_, e18, rfl⟩, _⟩, _⟩ := hf
      replace e18 : a.tmps[18]? = some (.pointer (some ⟨s0, 2, none⟩)) := e18
      have c_ : w_.cell? ⟨s0, 2, none⟩ = some (.int .i64 x2) := by have h_ := row_cell (blk_below H_2.out hg) 2 (lt_len (n := 68) N_.out (by decide)); rw [← X2.out] at h_; exact h_
      unfold execOp
      simp only [PrintLast.eval_of e18, Act.eval]
      go_simp
      (try rfl)
    refine stepsS_cons ?_ ?_
    · refine stepS_of (stepO_call rfl [(9, 19)] [] (by kernel_rfl) Tryd.func137 (by kernel_rfl) rfl rfl (fun a w_ hg hf => ?_))
      obtain ⟨⟨⟨_, e19, rfl⟩, _⟩, _⟩ := hf
      replace e19 : a.tmps[19]? = some (.int .i64 x2) := e19
      refine ⟨#[.int .i64 x2, .int .i64 4], (by simp only [List.map_toArray, List.map_cons, List.map_nil, PrintLast.eval_of e19]; first | done | rfl), (spec_l02Put.calls 20 x2 4 (leB x2 4) w_ E2.out).mono ?_⟩
      rintro e_ w2_ ⟨v_, rfl, R_, b_⟩
      exact ⟨_, rfl, b_, own_row R_⟩
    refine stepsS_cons ?_ ?_
    · refine stepS_of (stepO_val rfl [] [1] (by kernel_rfl) (.pointer (some ⟨s0, 3, none⟩)) (fun a w_ hg hf => ?_) (fun w_ _ => rfl))
      obtain ⟨_, ⟨o1, _⟩⟩ := hf
      have e1 : a.tmps[1]? = some (.pointer (some ⟨s0, 0, none⟩)) := o1.trans rfl
      unfold execOp
      simp only [PrintLast.eval_of e1, Act.eval]
      go_simp
      (try rfl)
    refine stepsS_cons ?_ ?_
    · refine stepS_of (stepO_val rfl [(11, 21)] [] (by kernel_rfl) (.int .i64 x3) (fun a w_ hg hf => ?_) (fun w_ _ => rfl))
      obtain ⟨⟨⟨_, e21, rfl⟩, _⟩, _⟩ := hf
      replace e21 : a.tmps[21]? = some (.pointer (some ⟨s0, 3, none⟩)) := e21
      have c_ : w_.cell? ⟨s0, 3, none⟩ = some (.int .i64 x3) := by have h_ := row_cell (blk_below H_2.out hg) 3 (lt_len (n := 68) N_.out (by decide)); rw [← X3.out] at h_; exact h_
      unfold execOp
      simp only [PrintLast.eval_of e21, Act.eval]
      go_simp
      (try rfl)
    refine stepsS_cons ?_ ?_
    · refine stepS_of (stepO_call rfl [(12, 22)] [] (by kernel_rfl) Tryd.func137 (by kernel_rfl) rfl rfl (fun a w_ hg hf => ?_))
      obtain ⟨⟨⟨_, e22, rfl⟩, _⟩, _⟩ := hf
      replace e22 : a.tmps[22]? = some (.int .i64 x3) := e22
      refine ⟨#[.int .i64 x3, .int .i64 8], (by simp only [List.map_toArray, List.map_cons, List.map_nil, PrintLast.eval_of e22]; first | done | rfl), (spec_l02Put.calls 20 x3 8 (leB x3 8) w_ E3.out).mono ?_⟩
      rintro e_ w2_ ⟨v_, rfl, R_, b_⟩
      exact ⟨_, rfl, b_, own_row R_⟩
    refine stepsS_cons ?_ ?_
    · refine stepS_of (stepO_val rfl [] [1] (by kernel_rfl) (.pointer (some ⟨s0, 4, none⟩)) (fun a w_ hg hf => ?_) (fun w_ _ => rfl))
      obtain ⟨_, ⟨o1, _⟩⟩ := hf
      have e1 : a.tmps[1]? = some (.pointer (some ⟨s0, 0, none⟩)) := o1.trans rfl
      unfold execOp
      simp only [PrintLast.eval_of e1, Act.eval]
      go_simp
      (try rfl)
    refine stepsS_cons ?_ ?_
    · refine stepS_of (stepO_val rfl [(14, 24)] [] (by kernel_rfl) (.int .i64 x4) (fun a w_ hg hf => ?_) (fun w_ _ => rfl))
      obtain ⟨⟨⟨_, e24, rfl⟩, _⟩, _⟩ := hf
      replace e24 : a.tmps[24]? = some (.pointer (some ⟨s0, 4, none⟩)) := e24
      have c_ : w_.cell? ⟨s0, 4, none⟩ = some (.int .i64 x4) := by have h_ := row_cell (blk_below H_2.out hg) 4 (lt_len (n := 68) N_.out (by decide)); rw [← X4.out] at h_; exact h_
      unfold execOp
      simp only [PrintLast.eval_of e24, Act.eval]
      go_simp
      (try rfl)
    refine stepsS_cons ?_ ?_
    · refine stepS_of (stepO_call rfl [(15, 25)] [] (by kernel_rfl) Tryd.func137 (by kernel_rfl) rfl rfl (fun a w_ hg hf => ?_))
      obtain ⟨⟨⟨_, e25, rfl⟩, _⟩, _⟩ := hf
      replace e25 : a.tmps[25]? = some (.int .i64 x4) := e25
      refine ⟨#[.int .i64 x4, .int .i64 8], (by simp only [List.map_toArray, List.map_cons, List.map_nil, PrintLast.eval_of e25]; first | done | rfl), (spec_l02Put.calls 20 x4 8 (leB x4 8) w_ E4.out).mono ?_⟩
      rintro e_ w2_ ⟨v_, rfl, R_, b_⟩
      exact ⟨_, rfl, b_, own_row R_⟩
    refine stepsS_cons ?_ ?_
    · refine stepS_of (stepO_val rfl [] [1] (by kernel_rfl) (.pointer (some ⟨s0, 5, none⟩)) (fun a w_ hg hf => ?_) (fun w_ _ => rfl))
      obtain ⟨_, ⟨o1, _⟩⟩ := hf
      have e1 : a.tmps[1]? = some (.pointer (some ⟨s0, 0, none⟩)) := o1.trans rfl
      unfold execOp
      simp only [PrintLast.eval_of e1, Act.eval]
      go_simp
      (try rfl)
    refine stepsS_cons ?_ ?_
    · refine stepS_of (stepO_val rfl [(17, 27)] [] (by kernel_rfl) (.int .i64 x5) (fun a w_ hg hf => ?_) (fun w_ _ => rfl))
      obtain ⟨⟨⟨_, e27, rfl⟩, _⟩, _⟩ := hf
      replace e27 : a.tmps[27]? = some (.pointer (some ⟨s0, 5, none⟩)) := e27
      have c_ : w_.cell? ⟨s0, 5, none⟩ = some (.int .i64 x5) := by have h_ := row_cell (blk_below H_2.out hg) 5 (lt_len (n := 68) N_.out (by decide)); rw [← X5.out] at h_; exact h_
      unfold execOp
      simp only [PrintLast.eval_of e27, Act.eval]
      go_simp
      (try rfl)
    refine stepsS_cons ?_ ?_
    · refine stepS_of (stepO_call rfl [(18, 28)] [] (by kernel_rfl) Tryd.func137 (by kernel_rfl) rfl rfl (fun a w_ hg hf => ?_))
      obtain ⟨⟨⟨_, e28, rfl⟩, _⟩, _⟩ := hf
      replace e28 : a.tmps[28]? = some (.int .i64 x5) := e28
      refine ⟨#[.int .i64 x5, .int .i64 4], (by simp only [List.map_toArray, List.map_cons, List.map_nil, PrintLast.eval_of e28]; first | done | rfl), (spec_l02Put.calls 20 x5 4 (leB x5 4) w_ E5.out).mono ?_⟩
      rintro e_ w2_ ⟨v_, rfl, R_, b_⟩
      exact ⟨_, rfl, b_, own_row R_⟩
    refine stepsS_cons ?_ ?_
    · refine stepS_of (stepO_val rfl [] [1] (by kernel_rfl) (.pointer (some ⟨s0, 6, none⟩)) (fun a w_ hg hf => ?_) (fun w_ _ => rfl))
      obtain ⟨_, ⟨o1, _⟩⟩ := hf
      have e1 : a.tmps[1]? = some (.pointer (some ⟨s0, 0, none⟩)) := o1.trans rfl
      unfold execOp
      simp only [PrintLast.eval_of e1, Act.eval]
      go_simp
      (try rfl)
    refine stepsS_cons ?_ ?_
    · refine stepS_of (stepO_val rfl [(20, 30)] [] (by kernel_rfl) (.int .i64 x6) (fun a w_ hg hf => ?_) (fun w_ _ => rfl))
      obtain ⟨⟨⟨_, e30, rfl⟩, _⟩, _⟩ := hf
      replace e30 : a.tmps[30]? = some (.pointer (some ⟨s0, 6, none⟩)) := e30
      have c_ : w_.cell? ⟨s0, 6, none⟩ = some (.int .i64 x6) := by have h_ := row_cell (blk_below H_2.out hg) 6 (lt_len (n := 68) N_.out (by decide)); rw [← X6.out] at h_; exact h_
      unfold execOp
      simp only [PrintLast.eval_of e30, Act.eval]
      go_simp
      (try rfl)
    refine stepsS_cons ?_ ?_
    · refine stepS_of (stepO_call rfl [(21, 31)] [] (by kernel_rfl) Tryd.func137 (by kernel_rfl) rfl rfl (fun a w_ hg hf => ?_))
      obtain ⟨⟨⟨_, e31, rfl⟩, _⟩, _⟩ := hf
      replace e31 : a.tmps[31]? = some (.int .i64 x6) := e31
      refine ⟨#[.int .i64 x6, .int .i64 4], (by simp only [List.map_toArray, List.map_cons, List.map_nil, PrintLast.eval_of e31]; first | done | rfl), (spec_l02Put.calls 20 x6 4 (leB x6 4) w_ E6.out).mono ?_⟩
      rintro e_ w2_ ⟨v_, rfl, R_, b_⟩
      exact ⟨_, rfl, b_, own_row R_⟩
    refine stepsS_cons ?_ ?_
    · refine stepS_of (stepO_val rfl [] [1] (by kernel_rfl) (.pointer (some ⟨s0, 7, none⟩)) (fun a w_ hg hf => ?_) (fun w_ _ => rfl))
      obtain ⟨_, ⟨o1, _⟩⟩ := hf
      have e1 : a.tmps[1]? = some (.pointer (some ⟨s0, 0, none⟩)) := o1.trans rfl
      unfold execOp
      simp only [PrintLast.eval_of e1, Act.eval]
      go_simp
      (try rfl)
    refine stepsS_cons ?_ ?_
    · refine stepS_of (stepO_val rfl [(23, 33)] [] (by kernel_rfl) (.agg (nums .i64 xi).toArray) (fun a w_ hg hf => ?_) (fun w_ _ => rfl))
      obtain ⟨⟨⟨_, e33, rfl⟩, _⟩, _⟩ := hf
      replace e33 : a.tmps[33]? = some (.pointer (some ⟨s0, 7, none⟩)) := e33
      have c_ : (loadVar 124 ⟨s0, 7, none⟩).run Tryd.prog w_ = .ok (.agg (nums .i64 xi).toArray) w_ := by have h_ := run_load_part (P := Tryd.prog) w_ s0 7 15 127 124 _ (0, 0) _ (blk_below H_2.out hg) Tryd.underlying124 rfl (by kernel_rfl) (by rw [nums_size _ _ _ N_.out]; decide); rw [take_nums, Array.toArray_toList] at h_; rw [XI.out]; exact h_
      unfold execOp
      simp only [PrintLast.eval_of e33, Instr.loadAt, Instr.sureAddr, Sem.run_bind, Sem.run_pure, Result.andThen_ok, c_]
    refine stepsS_cons ?_ ?_
    · refine stepS_of (stepO_call rfl [(24, 34)] [] (by kernel_rfl) Tryd.func140 (by kernel_rfl) rfl rfl (fun a w_ hg hf => ?_))
      obtain ⟨⟨⟨_, e34, rfl⟩, _⟩, _⟩ := hf
      replace e34 : a.tmps[34]? = some (.agg (nums .i64 xi).toArray) := e34
      refine ⟨#[.agg (nums .i64 xi).toArray], (by simp only [List.map_toArray, List.map_cons, List.map_nil, PrintLast.eval_of e34]; first | done | rfl), (spec_l02RootBytes.calls xi NXI.out (rootBytes xi) w_ ER7.out).mono ?_⟩
      rintro e_ w2_ ⟨v_, rfl, R_, b_⟩
      exact ⟨_, rfl, b_, own_row R_⟩
    refine stepsS_cons ?_ ?_
    · refine stepS_of (stepO_val rfl [] [1] (by kernel_rfl) (.pointer (some ⟨s0, 22, none⟩)) (fun a w_ hg hf => ?_) (fun w_ _ => rfl))
      obtain ⟨_, ⟨o1, _⟩⟩ := hf
      have e1 : a.tmps[1]? = some (.pointer (some ⟨s0, 0, none⟩)) := o1.trans rfl
      unfold execOp
      simp only [PrintLast.eval_of e1, Act.eval]
      go_simp
      (try rfl)
    refine stepsS_cons ?_ ?_
    · refine stepS_of (stepO_val rfl [(26, 36)] [] (by kernel_rfl) (.agg (nums .i64 xm).toArray) (fun a w_ hg hf => ?_) (fun w_ _ => rfl))
      obtain ⟨⟨⟨_, e36, rfl⟩, _⟩, _⟩ := hf
      replace e36 : a.tmps[36]? = some (.pointer (some ⟨s0, 22, none⟩)) := e36
      have c_ : (loadVar 124 ⟨s0, 22, none⟩).run Tryd.prog w_ = .ok (.agg (nums .i64 xm).toArray) w_ := by have h_ := run_load_part (P := Tryd.prog) w_ s0 22 15 127 124 _ (0, 0) _ (blk_below H_2.out hg) Tryd.underlying124 rfl (by kernel_rfl) (by rw [nums_size _ _ _ N_.out]; decide); rw [take_nums, Array.toArray_toList] at h_; rw [XM.out]; exact h_
      unfold execOp
      simp only [PrintLast.eval_of e36, Instr.loadAt, Instr.sureAddr, Sem.run_bind, Sem.run_pure, Result.andThen_ok, c_]
    refine stepsS_cons ?_ ?_
    · refine stepS_of (stepO_call rfl [(27, 37)] [] (by kernel_rfl) Tryd.func140 (by kernel_rfl) rfl rfl (fun a w_ hg hf => ?_))
      obtain ⟨⟨⟨_, e37, rfl⟩, _⟩, _⟩ := hf
      replace e37 : a.tmps[37]? = some (.agg (nums .i64 xm).toArray) := e37
      refine ⟨#[.agg (nums .i64 xm).toArray], (by simp only [List.map_toArray, List.map_cons, List.map_nil, PrintLast.eval_of e37]; first | done | rfl), (spec_l02RootBytes.calls xm NXM.out (rootBytes xm) w_ ER8.out).mono ?_⟩
      rintro e_ w2_ ⟨v_, rfl, R_, b_⟩
      exact ⟨_, rfl, b_, own_row R_⟩
    exact stepsS_nil
  · skip
    refine ends_cons (fun v0_ p0_ => ?_)
    replace p0_ := Aside0.mk (show LitB w2.heap.size (nums .u8 magicF).toArray 5 8 v0_ w3 from p0_)
    refine ends_cons (fun v1_ p1_ => ?_)
    replace p1_ := Aside0.mk (show Row (Kd.int .u8) magicF v1_ w3 from p1_)
    refine ends_cons (fun v2_ p2_ => ?_)
    obtain rfl : v2_ = _ := p2_
    refine ends_cons (fun v3_ p3_ => ?_)
    obtain rfl : v3_ = _ := p3_
    refine ends_cons (fun v4_ p4_ => ?_)
    replace p4_ := Aside0.mk (show Row (Kd.int .u8) (leB x0 8) v4_ w3 from p4_)
    refine ends_cons (fun v5_ p5_ => ?_)
    obtain rfl : v5_ = _ := p5_
    refine ends_cons (fun v6_ p6_ => ?_)
    obtain rfl : v6_ = _ := p6_
    refine ends_cons (fun v7_ p7_ => ?_)
    replace p7_ := Aside0.mk (show Row (Kd.int .u8) (leB x1 4) v7_ w3 from p7_)
    refine ends_cons (fun v8_ p8_ => ?_)
    obtain rfl : v8_ = _ := p8_
    refine ends_cons (fun v9_ p9_ => ?_)
    obtain rfl : v9_ = _ := p9_
    refine ends_cons (fun v10_ p10_ => ?_)
    replace p10_ := Aside0.mk (show Row (Kd.int .u8) (leB x2 4) v10_ w3 from p10_)
    refine ends_cons (fun v11_ p11_ => ?_)
    obtain rfl : v11_ = _ := p11_
    refine ends_cons (fun v12_ p12_ => ?_)
    obtain rfl : v12_ = _ := p12_
    refine ends_cons (fun v13_ p13_ => ?_)
    replace p13_ := Aside0.mk (show Row (Kd.int .u8) (leB x3 8) v13_ w3 from p13_)
    refine ends_cons (fun v14_ p14_ => ?_)
    obtain rfl : v14_ = _ := p14_
    refine ends_cons (fun v15_ p15_ => ?_)
    obtain rfl : v15_ = _ := p15_
    refine ends_cons (fun v16_ p16_ => ?_)
    replace p16_ := Aside0.mk (show Row (Kd.int .u8) (leB x4 8) v16_ w3 from p16_)
    refine ends_cons (fun v17_ p17_ => ?_)
    obtain rfl : v17_ = _ := p17_
    refine ends_cons (fun v18_ p18_ => ?_)
    obtain rfl : v18_ = _ := p18_
    refine ends_cons (fun v19_ p19_ => ?_)
    replace p19_ := Aside0.mk (show Row (Kd.int .u8) (leB x5 4) v19_ w3 from p19_)
    refine ends_cons (fun v20_ p20_ => ?_)
    obtain rfl : v20_ = _ := p20_
    refine ends_cons (fun v21_ p21_ => ?_)
    obtain rfl : v21_ = _ := p21_
    refine ends_cons (fun v22_ p22_ => ?_)
    replace p22_ := Aside0.mk (show Row (Kd.int .u8) (leB x6 4) v22_ w3 from p22_)
    refine ends_cons (fun v23_ p23_ => ?_)
    obtain rfl : v23_ = _ := p23_
    refine ends_cons (fun v24_ p24_ => ?_)
    obtain rfl : v24_ = _ := p24_
    refine ends_cons (fun v25_ p25_ => ?_)
    replace p25_ := Aside0.mk (show Row (Kd.int .u8) (rootBytes xi) v25_ w3 from p25_)
    refine ends_cons (fun v26_ p26_ => ?_)
    obtain rfl : v26_ = _ := p26_
    refine ends_cons (fun v27_ p27_ => ?_)
    obtain rfl : v27_ = _ := p27_
    refine ends_cons (fun v28_ p28_ => ?_)
    replace p28_ := Aside0.mk (show Row (Kd.int .u8) (rootBytes xm) v28_ w3 from p28_)
    refine ends_nil ?_
    simp only [Act.put, List.setIfInBounds_toArray, List.set_cons_succ, List.set_cons_zero]
    have HB3 := Aside0.mk (below_then HB2.out HB2.out.size hgn)
    have H_3 := Aside0.mk (blk_below H_2.out hgn)
    clear hgn HB2 H_2 p0_
    obtain ⟨A1, c1, rfl, h1, C1⟩ := p1_.out
    obtain ⟨A4, c4, rfl, h4, C4⟩ := p4_.out
    obtain ⟨A7, c7, rfl, h7, C7⟩ := p7_.out
    obtain ⟨A10, c10, rfl, h10, C10⟩ := p10_.out
    obtain ⟨A13, c13, rfl, h13, C13⟩ := p13_.out
    obtain ⟨A16, c16, rfl, h16, C16⟩ := p16_.out
    obtain ⟨A19, c19, rfl, h19, C19⟩ := p19_.out
    obtain ⟨A22, c22, rfl, h22, C22⟩ := p22_.out
    obtain ⟨A25, c25, rfl, h25, C25⟩ := p25_.out
    obtain ⟨A28, c28, rfl, h28, C28⟩ := p28_.out
    clear p1_ p4_ p7_ p10_ p13_ p16_ p19_ p22_ p25_ p28_
    simp only [List.drop_succ_cons, List.drop_zero]
    go_wp2_with (first | ((with_reducible refine gate_dst (N := 39) rfl ?_); refine wpList_rows rfl (N := 39) rfl (Kd.int .u8) 5 22 [(.slice A1 magicF.length c1), (.slice A4 (leB x0 8).length c4), (.slice A7 (leB x1 4).length c7), (.slice A10 (leB x2 4).length c10), (.slice A13 (leB x3 8).length c13), (.slice A16 (leB x4 8).length c16), (.slice A19 (leB x5 4).length c19), (.slice A22 (leB x6 4).length c22), (.slice A25 (rootBytes xi).length c25), (.slice A28 (rootBytes xm).length c28)] [magicF, (leB x0 8), (leB x1 4), (leB x2 4), (leB x3 8), (leB x4 8), (leB x5 4), (leB x6 4), (rootBytes xi), (rootBytes xm)] (by simp) ?hr (rows_cons ⟨_, _, rfl, h1, C1⟩ (rows_cons ⟨_, _, rfl, h4, C4⟩ (rows_cons ⟨_, _, rfl, h7, C7⟩ (rows_cons ⟨_, _, rfl, h10, C10⟩ (rows_cons ⟨_, _, rfl, h13, C13⟩ (rows_cons ⟨_, _, rfl, h16, C16⟩ (rows_cons ⟨_, _, rfl, h19, C19⟩ (rows_cons ⟨_, _, rfl, h22, C22⟩ (rows_cons ⟨_, _, rfl, h25, C25⟩ (rows_cons ⟨_, _, rfl, h28, C28⟩ (rows_nil))))))))))) ?_; (case hr => first | (go_simp; done) | (go_simp; rfl)); intro A39 c39 w4 h39 C_ b_; have C39_4 := Aside0.mk C_; clear C_; have HB4 := Aside0.mk (below_then HB3.out HB3.out.size b_); have H_4 := Aside0.mk (blk_below H_3.out b_); clear b_ HB3 H_3) | ((with_reducible refine gate_dst (N := 40) rfl ?_); refine goesL_ (some 40) rfl rfl Tryd.func136 (by kernel_rfl) rfl #[.slice A39 [magicF, leB x0 8, leB x1 4, leB x2 4, leB x3 8, leB x4 8, leB x5 4, leB x6 4, rootBytes xi, rootBytes xm].length c39] rfl (by (try simp only [List.map_toArray, List.map_cons, List.map_nil]); first | done | rfl) ?_; refine (spec_l02Join.calls 20 A39 c39 _ fl w4 C39_4.out h39 EJ.out).mono ?_; rintro e_ w5 ⟨v_, rfl, R_, b_⟩; obtain ⟨A40, c40, rfl⟩ := Kd.R_slice R_; refine ⟨_, rfl, ?_⟩; have O40_5 := Aside0.mk (Kd.R_lower R_ HB4.out.size); clear R_; have HB5 := Aside0.mk (below_then HB4.out HB4.out.size b_); have H_5 := Aside0.mk (blk_below H_4.out b_); have C39_5 := Aside0.mk (Kd.C_below C39_4.out b_); clear b_ HB4 H_4 C39_4) | ((with_reducible refine gate_dst (N := 42) rfl ?_); refine hx_loadp rfl 125 (.tmp 41) rfl s0 37 31 rfl Tryd.underlying125 rfl (by kernel_rfl) H_5.out (le_len (n := 68) N_.out (by decide)) ?_; rw [← XS.out]))
    have O3 := O40_5
    have HB3 := HB5
    have H_3 := H_5
    (try simp only [Act.put, List.setIfInBounds_toArray, List.set_cons_succ, List.set_cons_zero])
    go_loopw [4, 6, 43] (fun v4 v6 v43 wr => ∃ (j : Nat) (u4 u6 : Value), u4 = v4 ∧ u6 = v6 ∧ v43 = .int .i64 (j : Int) ∧ Aside0 (j ≤ 31) ∧ Aside0 (Kd.R (Kd.int .u8) 5 wr w.heap.size (fun _ => True) v4 (fl ++ flat4 (xs.take j))) ∧ Aside0 (Below w.heap.size w wr)) (fun _ _ v43 _ => 31 - (intOf v43).toNat)
    case atStart => exact ⟨0, _, _, rfl, rfl, rfl, ⟨Nat.zero_le _⟩, ⟨by rw [List.take_zero, flat4, List.append_nil]; exact O3.out⟩, HB3⟩
    case round =>
      clear O3 HB3 H_3 O40_5 HB5 H_5
      obtain ⟨j, v4, v6, rfl, rfl, rfl, hj, OO0, HB⟩ := hrel
      by_cases c9 : j < 31
      · have c9b0 : decide ((j : Int) < 31) = true := decide_eq_true (by omega)
        have c9b1 : decide (j < 31) = true := decide_eq_true c9
        obtain ⟨p, hp⟩ : ∃ p, p = xs.getD j 0 := ⟨_, rfl⟩
        have hpr := GS.out j c9
        rw [← hp] at hpr
        have HPV := Aside0.mk hp
        have HP4 := Aside0.mk (show spec_l02Put.f 20 p 4 = some (leB p 4) from l02Put_f p 4 20 (by decide) hpr.1 (by omega) (by decide))
        obtain ⟨bs, hbs⟩ : ∃ bs, bs = fl ++ flat4 (xs.take j) := ⟨_, rfl⟩
        have oo := OO0.out
        rw [← hbs] at oo
        have OO := Aside0.mk oo
        have HBL := Aside0.mk (show bs.length = 176 + 4 * j by rw [hbs, List.length_append, HHL.out, flat4_length, List.length_take, NXS.out, Nat.min_eq_left (by omega)])
        have HBS_ := Aside0.mk hbs
        have C9 := Aside0.mk c9
        clear hp c9 hpr hbs oo OO0
        go_wp2_with (first | ((with_reducible refine gate_dst (N := 45) rfl ?_); refine hx_index rfl 125 3 31 (.tmp 42) (.tmp 43) rfl xs j _ rfl rfl Tryd.underlying125 Tryd.underlying3 rfl (by kernel_rfl) NXS.out C9.out ?_; rw [← HPV.out]) | ((with_reducible refine gate_dst (N := 48) rfl ?_); refine goesL_ (some 48) rfl rfl Tryd.func137 (by kernel_rfl) rfl #[.int .i64 p, .int .i64 4] rfl (by (try simp only [List.map_toArray, List.map_cons, List.map_nil]); first | done | rfl) ?_; refine (spec_l02Put.calls 20 p 4 _ _ HP4.out).mono ?_; rintro e_ w4 ⟨v48, rfl, R_, b_⟩; obtain ⟨A48, c48, rfl⟩ := Kd.R_slice R_; refine ⟨_, rfl, ?_⟩; have O48 := Aside0.mk R_; have HB4 := Aside0.mk (below_then HB.out HB.out.size b_); have OO4 := Aside0.mk (Kd.R_below OO.out b_); clear R_ b_ HB OO) | ((with_reducible refine gate_dst (N := 49) rfl ?_); refine Kd.R_append_rows (Kd.int .u8) (w0 := w) w.heap.size rfl (.tmp 46) (.tmp 48) 22 5 (.int .u8 0) 1 rfl Tryd.underlying22 info5_ rfl (by decide) (by omega) v4 bs (leB p 4) _ _ _ (fun _ => True) (fun _ => False) rfl rfl OO4.out (Kd.R_reads' O48.out).2.2 (fun _ _ h => h) (fun _ h => h.elim) (fun _ _ => trivial) HB4.out HB4.out.size (by have h1_ := HBL.out; have h2_ := C9.out; show (bs.length + (leB p 4).length) * 1 ≤ _; rw [leB_length]; omega) ?_; intro v49 w5 ho hb hg_ hn_; have OO5 := Aside0.mk ho; have HB5 := Aside0.mk hb; clear ho hb hg_ hn_ HB4 OO4 O48))
        go_roundw
        case rel => exact ⟨j + 1, _, _, rfl, rfl, by first | rw [show wrap64 ((j : Int) + 1) = ((j + 1 : Nat) : Int) by (have := C9.out; unfold wrap64; omega)] | (simp; done), ⟨by have := C9.out; omega⟩, ⟨by
          have ho := OO5.out
          rw [HBS_.out, HPV.out, List.append_assoc, ← flat4_take xs j (by rw [NXS.out]; exact C9.out)] at ho
          exact ho⟩, HB5⟩
        case measure =>
          (try rw [show wrap64 ((j : Int) + 1) = ((j + 1 : Nat) : Int) by (have := C9.out; unfold wrap64; omega)])
          simp only [intOf]
          have := C9.out
          omega
      · obtain rfl : j = 31 := by have := hj.out; omega
        have c9b0 : decide ((31 : Int) < 31) = false := by decide
        have oo := OO0.out
        rw [List.take_of_length_le (by rw [NXS.out]; exact Nat.le_refl _), ← HBB.out] at oo
        obtain ⟨A4, c4, ev4⟩ := Kd.R_slice oo
        subst ev4
        have OO := Aside0.mk oo
        clear c9 oo OO0
        go_wp2_with (first | ((with_reducible refine gate_dst (N := 52) rfl ?_); refine goesL_ (some 52) rfl rfl Tryd.func139 (by kernel_rfl) rfl #[.slice A4 (fsBody a0).length c4] rfl (by (try simp only [List.map_toArray, List.map_cons, List.map_nil]); first | done | rfl) ?_; refine (spec_l02Sealed.calls 2000 A4 c4 (fsBody a0) _ _ (Kd.R_reads' OO.out).2.2 (Kd.R_reads' OO.out).2.1 HSE.out).mono ?_; rintro e_ w6 ⟨v52, rfl, R_, b_⟩; refine ⟨_, rfl, ?_⟩; have O52 := Aside0.mk (Kd.R_lower R_ HB.out.size); have HB6 := Aside0.mk (below_then HB.out HB.out.size b_); clear R_ b_ HB OO))
        go_ret2
        exact ⟨_, rfl, O52.out, HB6.out⟩
end Go.Proofs.YtknlpjoidjgciaaDoor.PFnExactSnapshots
