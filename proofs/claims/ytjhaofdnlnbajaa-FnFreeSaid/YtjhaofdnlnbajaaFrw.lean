import Derived.Test.YtjhaofdnlnbajaaPFnFreex10
import Derived.Test.YtjhaofdnlnbajaaPFnFreex9
import Derived.Test.YtjhaofdnlnbajaaPFnFreex8
import Derived.Test.YtjhaofdnlnbajaaPFnFreex6
import Derived.Test.YtjhaofdnlnbajaaPFnFreex4
import Derived.Test.YtjhaofdnlnbajaaWOrd
import Derived.OrdersHeld
import Derived.Test.YtjhaofdnlnbajaaWTab2
namespace Go.Proofs.Ytjhaofdnlnbajaa.PFnFree
open Go.RowKit Go.Proofs.YtjhaofdnlnbajaaW.PrintWords Go.Proofs.YtjhaofdnlnbajaaW.PrintLast Go.Proofs.YtjhaofdnlnbajaaW.PrintMore
open Go.Proofs.YtjhaofdnlnbajaaW Go.Proofs.YtjhaofdnlnbajaaW.PrintHand Go.Proofs.YtjhaofdnlnbajaaW.PrintHx
attribute [local go_sem] max2_int min2_int max_two min_two max_three min_three max_four min_four
set_option linter.unusedVariables false
set_option linter.unusedSimpArgs false
theorem kept_keep {w w' : World} {g : Nat} (h : KeepBut w w' g none) : Kept w w' (fun k => k = g) := ⟨h.1, fun i hi hn => h.2 i hi hn (by simp)⟩
def setP (l : List Int) (p : Int) (i : Nat) : List Int := ((List.range' 2 (i - 2)).filter (fun q : Nat => decide (Int.tmod (rd l (q : Int) / 2 ^ min p.toNat 64) 2 = 1))).map (fun q : Nat => (q : Int))
theorem setP_step (l : List Int) (p : Int) (i : Nat) (h2 : 2 ≤ i) : setP l p (i + 1) = setP l p i ++ (if Int.tmod (rd l (i : Int) / 2 ^ min p.toNat 64) 2 = 1 then [(i : Int)] else []) := by
  unfold setP
  obtain ⟨d, rfl⟩ : ∃ d, i = 2 + d := ⟨i - 2, by omega⟩
  rw [show 2 + d + 1 - 2 = d + 1 by omega, show 2 + d - 2 = d by omega, List.range'_1_concat, List.filter_append, List.map_append]
  congr 1
  by_cases c : Int.tmod (rd l ((2 + d : Nat) : Int) / 2 ^ min p.toNat 64) 2 = 1
  · rw [if_pos c]
    simp only [List.filter_cons, List.filter_nil, c, decide_true, if_true, List.map_cons, List.map_nil]
  · rw [if_neg c]
    simp only [List.filter_cons, List.filter_nil, c, decide_false, Bool.false_eq_true, if_false, List.map_nil]
theorem setP_hit {l : List Int} {p : Int} {i : Nat} {x : Int} (h2 : 2 ≤ i) (hx : x = rd l (i : Int)) (h : Int.tmod (x / 2 ^ min p.toNat 64) 2 = 1) : setP l p (i + 1) = setP l p i ++ [(i : Int)] := by
  rw [setP_step l p i h2, if_pos (by rw [← hx]; exact h)]
theorem setP_miss {l : List Int} {p : Int} {i : Nat} {x : Int} (h2 : 2 ≤ i) (hx : x = rd l (i : Int)) (h : ¬ Int.tmod (x / 2 ^ min p.toNat 64) 2 = 1) : setP l p (i + 1) = setP l p i := by
  rw [setP_step l p i h2, if_neg (by rw [← hx]; exact h), List.append_nil]
theorem setP_le (l : List Int) (p : Int) (i : Nat) : (setP l p i).length ≤ i - 2 := by
  unfold setP
  rw [List.length_map]
  exact Nat.le_trans (List.length_filter_le _ _) (by rw [List.length_range']; exact Nat.le_refl _)
theorem op_step {P : Program} {ops : Array Oper} {Q : Exit → Act → World → Prop} {a : Act} {w : World} {i : Nat} {o : Oper} (hi : ops[i]? = some o) {K : Act → World → Prop} (h : if Region.wanted o (yielded ops a.tmps) = true then Oper.wp P o a w K Q else K (a.put o.dst undef) w) : wpOp P ops Q i K a w := by
  unfold wpOp
  simp only [hi]
  by_cases hw : Region.wanted o (yielded ops a.tmps) = true
  · rw [if_pos hw] at h ⊢
    exact .inl h
  · rw [if_neg hw] at h ⊢
    exact h
theorem ch_ldf {P : Program} {a : Act} {w : World} {o : Oper} {t : TypeId} {x : Operand} {s off : Nat} {L : List Int} {tt : TypeId} {d : TypeDesc} (hw : w.heap[s]? = some (.cells (nums .i64 L).toArray tt (0, 0))) (hl : off < L.length) (ho : o.op = .load t x := by rfl) (hx : a.eval x = .pointer (some ⟨s, off, none⟩) := by rfl) (hu : P.underlying t = some d := by rfl) (hd : (match d with | .struct _ | .array _ _ => true | _ => false) = false := by rfl) : (execOp a.eval o).run P w = .ok (.value (.int .i64 (L.getD off 0))) w := by
  have hagg : (isAgg t).run P w = .ok false w := by
    unfold isAgg
    rw [Sem.run_bind, run_underlying hu w]
    cases d <;> simp_all
  have hc : w.cell? ⟨s, off, none⟩ = some (.int .i64 (L.getD off 0)) := (blk_cell hw off).trans (by simp [nums, List.getElem?_eq_getElem hl])
  have h : (loadVar t ⟨s, off, none⟩).run P w = .ok (.int .i64 (L.getD off 0)) w := by
    unfold loadVar
    rw [Sem.run_bind, hagg]
    simp [hc]
  unfold execOp
  simp only [ho, hx, Instr.loadAt, Instr.sureAddr, Sem.run_bind, Sem.run_pure, Result.andThen_ok, h]
theorem onlyH {P : Program} {ops : Array Oper} {Q : Exit → Act → World → Prop} {md : Region.Mode} {S : World → Prop} (i : Nat) {fuel : Nat} {listed : Array Bool} {a : Act} {w : World} (hr : Region.ready md ops listed = [i])
    (h : wpOp P ops Q i (fun a' w' => S w' ∧ wpAnyH P md ops Q S fuel (listed.setIfInBounds i true) a' w') a w) : wpAnyH P md ops Q S (fuel + 1) listed a w :=
  wpAnyH_all hr (by simp) (fun j hj => by obtain rfl := List.mem_singleton.1 hj; exact h)
set_option maxHeartbeats 8000000 in
set_option maxRecDepth 100000 in
theorem laws_FnFree.walk (k : Nat) (A0 : Option Addr) (c0 : Nat) (l0 : List Int) (w : World) (hr0 : Kd.C (Kd.int .u8) w A0 l0.length l0) (hc0 : l0.length ≤ c0) (h0 : ¬ (l0.length : Int) > 1048576)
    (p0 q0 p1 q1 p2 q2 p3 q3 n1 n2 : Int) (Wl C : List Int)
    (f1 : spec_L01Draw.f l0 = some (l0, p0, q0)) (f2 : spec_l01Src_N.f l0 p0 q0 150 = some (n1, p1, q1)) (f3 : spec_L04DrawWords.f k l0 p1 q1 (wrap64 (64 + n1)) = some (Wl, p2, q2))
    (hlen : 64 ≤ Wl.length ∧ Wl.length ≤ 2048) (f4 : spec_l01Src_N.f l0 p2 q2 (wrap64 ((Wl.length : Int) - 2)) = some (n2, p3, q3)) (f5 : impl_MapCount.f k Wl = some (C, 0)) (hC : C.length = 35) (cf cu : Int) (hcf : C.getD 1 0 = cf) (hcu : C.getD 2 0 = cu)
    (Fr Fq : List Int) (nx nq : Int) (f6 : impl_MapFree.f Wl (wrap64 (2 + n2)) cf = some (Fr, nx, 0)) (f7 : impl_MapFree.f Wl (wrap64 (2 + n2)) (wrap64 (cf + 1)) = some (Fq, nq, 9))
    (g1 : ((Fr.length : Int) != cf) = false) (g2 : (wrap64 (cf + cu) != (Wl.length : Int)) = false) (g3 : decide (nx < 2) = false) (g4 : decide ((Wl.length : Int) ≤ nx) = false)
    (pl p4 q4 : Int) (hpl : 0 ≤ pl ∧ pl < 32) (f8 : spec_l01Src_N.f l0 p3 q3 32 = some (pl, p4, q4)) (hfl : Fr.length ≤ 2048)
    (M1 C2 St : List Int) (hSt : setP Wl pl Wl.length = St) (hSl : St.length ≤ 2048) (f9 : impl_MapPlane.f k Wl pl [] = some (M1, 0)) (hM1 : M1.length = Wl.length) (f10 : impl_MapPlane.f k M1 pl St = some (Wl, 0)) (f11 : impl_MapCount.f k M1 = some (C2, 0)) (hC2 : C2.length = 35)
    (fxd : Int) (hfx : (pl = 0 ∧ fxd = 2) ∨ (¬ pl = 0 ∧ fxd = 0)) (hd1 : C2.getD (3 + pl.toNat) 0 = fxd) (hd2 : C.getD (3 + pl.toNat) 0 = wrap64 ((St.length : Int) + fxd)) (g5 : ∀ j : Nat, j < Fr.length → 0 ≤ rd Fr (j : Int) ∧ rd Fr (j : Int) < (Wl.length : Int) ∧ rd Wl (rd Fr (j : Int)) = 0 ∧ (0 < j → ¬ Int.tmod (wrap64 (wrap64 (rd Fr (j : Int) - (wrap64 (2 + n2))) + (Wl.length : Int))) (Wl.length : Int) ≤ Int.tmod (wrap64 (wrap64 (rd Fr (wrap64 ((j : Int) - 1)) - (wrap64 (2 + n2))) + (Wl.length : Int))) (Wl.length : Int))) :
    Calls Try.prog 14 #[.slice A0 l0.length c0] w fun e w' => e = .returned (.bool true) ∧ Below w.heap.size w w' := by
  have HR0 := Aside0.mk hr0
  have HC0 := Aside0.mk hc0
  have F1 := Aside0.mk f1
  have F2 := Aside0.mk f2
  have F3 := Aside0.mk f3
  have F4 := Aside0.mk f4
  have F5 := Aside0.mk f5
  have F6 := Aside0.mk f6
  have F7 := Aside0.mk f7
  have HLEN := Aside0.mk hlen
  have HPL := Aside0.mk hpl
  have F8 := Aside0.mk f8
  have HFL := Aside0.mk hfl
  have G5 := Aside0.mk g5
  have HCF := Aside0.mk hcf
  have HCU := Aside0.mk hcu
  have HCL := Aside0.mk hC
  have HST := Aside0.mk hSt
  have HSL := Aside0.mk hSl
  have F9 := Aside0.mk f9
  have HM1 := Aside0.mk hM1
  have F10 := Aside0.mk f10
  have F11 := Aside0.mk f11
  have HC2 := Aside0.mk hC2
  have HFX := Aside0.mk hfx
  have HD1 := Aside0.mk hd1
  have HD2 := Aside0.mk hd2
  have h0a : decide (1048576 < (l0.length : Int)) = false := decide_eq_false h0
  have h0b : decide (1048576 < l0.length) = false := decide_eq_false (by omega)
  clear hSt hSl f9 hM1 f10 f11 hC2 hfx hd1 hd2 hr0 hc0 f1 f2 f3 f4 f5 f6 f7 hlen hC h0 hcf hcu g5 hfl f8 hpl
  have HB0 : Aside0 (Below w.heap.size w w) := ⟨Below.refl _ _⟩
  have Z55 : ∀ w, (zeroValue 55).run Try.prog w = .ok (.agg (nums .i64 (List.replicate 35 0)).toArray) w := fun _ => by kernel_rfl
  obtain ⟨s0, Sz0⟩ : ∃ s0, Aside0 (w.heap.size = s0) := ⟨_, ⟨rfl⟩⟩
  go_enter Try.func14, Try.ntmps14
  go_upto_region 8 with (first | ((with_reducible refine gate_dst (N := 32) rfl ?_); refine goesL_ (some 32) rfl rfl Try.func19 (by kernel_rfl) rfl #[.slice A0 l0.length c0] rfl (by (try simp only [List.map_toArray, List.map_cons, List.map_nil]); first | done | rfl) ?_; refine (spec_L01Draw.calls A0 c0 l0 l0 p0 q0 w w HB0.out HR0.out HC0.out F1.out).mono ?_; rintro e_ w1 ⟨g, rfl, hI1, hB1, b1⟩; refine ⟨_, rfl, ?_⟩; have GL := Aside0.mk (IsS68.lt hI1); have GG := Aside0.mk (IsS68.ge hI1); have K0 := kept_below b1; have HB1 := Aside0.mk (below_then HB0.out HB0.out.size b1); obtain ⟨s1, L1, Sz1⟩ := size_letter Sz0 K0; have SRC_1 := Aside0.mk hI1; have hgs : Aside0 (g < s1) := ⟨by have := GL.out; rw [Sz1.out] at this; exact this⟩; have hgl : Aside0 (s0 ≤ g) := ⟨by have := GG.out; rw [Sz0.out] at this; exact this⟩; clear hI1 hB1 b1 HB0 K0 GL GG) | ((with_reducible refine gate_dst (N := 35) rfl ?_); refine goesL_ (some 35) rfl rfl Try.func20 (by kernel_rfl) rfl #[.pointer (some ⟨g, 0, none⟩), .int .i64 150] rfl (by (try simp only [List.map_toArray, List.map_cons, List.map_nil]); first | done | rfl) ?_; refine (spec_l01Src_N.calls g _ _ _ _ _ _ _ w w1 SRC_1.out HB1.out F2.out).mono ?_; rintro e_ w2 ⟨rfl, hI2, hB2, hK2⟩; refine ⟨_, rfl, ?_⟩; have K1 := kept_keep hK2; have HB2 := Aside0.mk hB2; obtain ⟨s2, L2, Sz2⟩ := size_letter Sz1 K1; have SRC_2 := Aside0.mk hI2; clear SRC_1; clear hI2 hB2 hK2 HB1 K1) | ((with_reducible refine gate_dst (N := 37) rfl ?_); refine goesL_ (some 37) rfl rfl Try.func46 (by kernel_rfl) rfl #[.pointer (some ⟨g, 0, none⟩), .int .i64 (wrap64 (64 + n1))] rfl (by (try simp only [List.map_toArray, List.map_cons, List.map_nil]); first | done | rfl) ?_; refine (spec_L04DrawWords.calls k g _ _ _ _ _ _ _ w w2 SRC_2.out HB2.out F3.out).mono ?_; rintro e_ w3 ⟨vw, rfl, ho, hI3, hB3, hK3⟩; refine ⟨_, rfl, ?_⟩; obtain ⟨AW, cW, rfl⟩ := Kd.R_slice ho; have K2 := kept_keep hK3; have HB3 := Aside0.mk hB3; obtain ⟨s3, L3, Sz3⟩ := size_letter Sz2 K2; have SRC_3 := Aside0.mk hI3; clear SRC_2; have OW_3 := own_btw ho Sz2.out Sz3 HB2.out.size; clear ho hI3 hB3 hK3 HB2 K2) | ((with_reducible refine gate_dst (N := 43) rfl ?_); refine goesL_ (some 43) rfl rfl Try.func20 (by kernel_rfl) rfl #[.pointer (some ⟨g, 0, none⟩), .int .i64 (wrap64 ((Wl.length : Int) - 2))] rfl (by (try simp only [List.map_toArray, List.map_cons, List.map_nil]); first | done | rfl) ?_; refine (spec_l01Src_N.calls g _ _ _ _ _ _ _ w w3 SRC_3.out HB3.out F4.out).mono ?_; rintro e_ w4 ⟨rfl, hI4, hB4, hK4⟩; refine ⟨_, rfl, ?_⟩; have K3 := kept_keep hK4; have HB4 := Aside0.mk hB4; obtain ⟨s4, L4, Sz4⟩ := size_letter Sz3 K3; have SRC_4 := Aside0.mk hI4; clear SRC_3; have OW_4 := Aside0.mk (Kd.R_kept OW_3.out K3 (fun k_ hk_ (he_ : k_ = g) => by have h1_ := hk_.1; have h2_ := hk_.2; have := hgs.out; omega)); clear OW_3; clear hI4 hB4 hK4 HB3 K3) | ((with_reducible refine gate_dst (N := 46) rfl ?_); refine Kd.R_lit (Kd.int .i64) (w0 := w4) w4.heap.size 3 ?hg (N := 46) ?hd (xs := ([] : List Int)) (inner := []) (ok := fun _ => True) (okp := fun _ => True) ?hr ?hp (fun _ hk => hk) trivial (Below.refl _ _) (Nat.le_refl _) (by simp) ?_; (case hd => rfl); (case hg => rfl); (case hr => first | (go_simp; done) | (go_simp; rfl)); (case hp => exact (Reps.none _ _)); intro vm5 wm5 om5 bm5 hg_ hnew_; clear hg_ hnew_; (try simp only [Int.reduceToNat] at om5); have OM5 := Aside0.mk om5; have BM5 := Aside0.mk bm5; clear om5 bm5) | ((with_reducible refine gate_dst (N := 48) rfl ?_); refine Kd.R_append_rows (Kd.int .i64) (w0 := w4) w4.heap.size rfl (.tmp 46) (.tmp 47) 32 3 (.int .i64 0) 8 rfl Try.underlying32 info3 rfl (by decide) (by omega) vm5 ([] : List Int) Wl _ _ _ (fun _ => True) (fun _ => False) rfl rfl ?aO ?aR (fun _ _ h => h) (fun _ h => h.elim) ?aF ?aB ?aS ?aL ?_; (case aO => exact OM5.out); (case aR => exact Kd.C_below (Kd.R_reads' OW_4.out).2.2 BM5.out); (case aF => exact (fun _ _ => trivial)); (case aB => exact BM5.out); (case aS => exact BM5.out.size); (case aL => have := HLEN.out; have := HM1.out; have := HSL.out; simp only [List.length_nil]; omega); intro va5 w5 ho5 b5 hg hat; clear hg hat; rw [List.nil_append] at ho5; obtain ⟨Aa, ca, rfl⟩ := Kd.R_slice ho5; have K4 := kept_below b5; have HB5 := Aside0.mk (below_then HB4.out HB4.out.size b5); obtain ⟨s5, L5, Sz5⟩ := size_letter Sz4 K4; have SRC_5 := Aside0.mk (IsS68.below SRC_4.out b5); clear SRC_4; have OW_5 := Aside0.mk (Kd.R_kept OW_4.out K4 (fun _ _ h_ => h_)); clear OW_4; have Oa_5 := own_btw ho5 Sz4.out Sz5 HB4.out.size; clear ho5 b5 HB4 K4) | ((with_reducible refine gate_dst (N := 49) rfl ?_); refine goesL_ (some 49) rfl rfl Try.func40 (by kernel_rfl) rfl #[.slice Aa Wl.length ca] rfl (by (try simp only [List.map_toArray, List.map_cons, List.map_nil]); first | done | rfl) ?_; refine (impl_MapCount.calls k Aa ca Wl C 0 w5 (Kd.R_reads' Oa_5.out).2.2 (Kd.R_reads' Oa_5.out).2.1 F5.out).mono ?_; rintro e_ w6 ⟨rfl, b6⟩; refine ⟨_, rfl, ?_⟩; have K5 := kept_below b6; have HB6 := Aside0.mk (below_then HB5.out HB5.out.size b6); obtain ⟨s6, L6, Sz6⟩ := size_letter Sz5 K5; have SRC_6 := Aside0.mk (IsS68.below SRC_5.out b6); clear SRC_5; have OW_6 := Aside0.mk (Kd.R_kept OW_5.out K5 (fun _ _ h_ => h_)); clear OW_5; have Oa_6 := Aside0.mk (Kd.R_kept Oa_5.out K5 (fun _ _ h_ => h_)); clear Oa_5; clear b6 HB5 K5) | ((with_reducible refine gate_dst (N := 7) rfl ?_); refine hx_alloc rfl 7 rfl 55 rfl Sz6 (.agg (nums .i64 (List.replicate 35 0)).toArray) (nums .i64 (List.replicate 35 0)).toArray Z55 rfl ?_; intro w7 s7 L7 Sz7 b7 g7; have K6 := kept_below b7; have HB7 := Aside0.mk (below_then HB6.out HB6.out.size b7); have SRC_7 := Aside0.mk (IsS68.below SRC_6.out b7); clear SRC_6; have OW_7 := Aside0.mk (Kd.R_kept OW_6.out K6 (fun _ _ h_ => h_)); clear OW_6; have Oa_7 := Aside0.mk (Kd.R_kept Oa_6.out K6 (fun _ _ h_ => h_)); clear Oa_6; have BC_7 := Aside0.mk g7; clear b7 g7 HB6 K6) | ((with_reducible refine gate_store (t := 55) (p := 7) (v := .tmp 50) rfl ?_); refine hx_store rfl rfl 55 (.tmp 7) (.tmp 50) rfl s6 35 rfl (nums .i64 C).toArray rfl (by kernel_rfl) (nums_size _ _ _ HCL.out) (nums_one _ _) BC_7.out (by simp [nums]) ?_; intro w8 t8 g8; have K7 := kept_touch t8; have HB8 := Aside0.mk (t8.below HB7.out (by have := Sz0.out; omega)); obtain ⟨s8, L8, Sz8⟩ := size_letter Sz7 K7; have SRC_8 := Aside0.mk (IsS68.kept SRC_7.out K7 (fun (h_ : g = s6) => by have := hgs.out; omega)); clear SRC_7; have OW_8 := Aside0.mk (Kd.R_kept OW_7.out K7 (fun k_ hk_ (he_ : k_ = s6) => by have h1_ := hk_.1; have h2_ := hk_.2; omega)); clear OW_7; have Oa_8 := Aside0.mk (Kd.R_kept Oa_7.out K7 (fun k_ hk_ (he_ : k_ = s6) => by have h1_ := hk_.1; have h2_ := hk_.2; omega)); clear Oa_7; have BC_8 := Aside0.mk g8; clear BC_7 t8 g8 HB7 K7))
  refine wp_region_held (S := fun w_ => w_.heap[s6]? = some (.cells (nums .i64 C).toArray 55 (0, 0))) (by kernel_rfl) ?_
  obtain ⟨w9, hd⟩ : ∃ wd, wd = w8.drew := ⟨_, rfl⟩
  rw [show ({ w8 with drawn := w8.drawn + 1 } : World) = w9 from hd.symm]
  have b9 : Below w8.heap.size w8 w9 := by rw [hd]; exact (Below.refl _ _).drew
  clear hd
  have K8 := kept_below b9
  have HB9 := Aside0.mk (below_then HB8.out HB8.out.size b9)
  obtain ⟨s9, L9, Sz9⟩ := size_letter Sz8 K8
  have SRC_9 := Aside0.mk (IsS68.below SRC_8.out b9)
  clear SRC_8
  have OW_9 := Aside0.mk (Kd.R_kept OW_8.out K8 (fun _ _ h_ => h_))
  clear OW_8
  have Oa_9 := Aside0.mk (Kd.R_kept Oa_8.out K8 (fun _ _ h_ => h_))
  clear Oa_8
  have BC_9 := Aside0.mk (blk_kept BC_8.out K8 (fun h_ => h_))
  clear BC_8
  clear b9 HB8 K8
  refine wpAnyH_take (i := 1) (v := .slice AW Wl.length cW) rfl (by kernel_rfl) (by kernel_rfl) (by kernel_rfl) (fun _ _ _ h => h) (.inl ⟨rfl, fun w_ hS_ => ?_⟩) BC_9.out ?_
  · unfold execOp
    go_simp
    (try rfl)
  simp only [List.getElem_toArray, List.getElem_cons_succ, List.getElem_cons_zero, Act.put, List.setIfInBounds_toArray, List.set_cons_succ, List.set_cons_zero]
  refine wpAnyH_take (i := 3) (v := .int .i64 (wrap64 (2 + n2))) rfl (by kernel_rfl) (by kernel_rfl) (by kernel_rfl) (fun _ _ _ h => h) (.inl ⟨rfl, fun w_ hS_ => ?_⟩) BC_9.out ?_
  · unfold execOp
    go_simp
    (try rfl)
  simp only [List.getElem_toArray, List.getElem_cons_succ, List.getElem_cons_zero, Act.put, List.setIfInBounds_toArray, List.set_cons_succ, List.set_cons_zero]
  refine wpAnyH_take (i := 4) (v := .pointer (some ⟨s6, 1, none⟩)) rfl (by kernel_rfl) (by kernel_rfl) (by kernel_rfl) (fun _ _ _ h => h) (.inl ⟨rfl, fun w_ hS_ => ?_⟩) BC_9.out ?_
  · unfold execOp
    go_simp
    (try rfl)
  simp only [List.getElem_toArray, List.getElem_cons_succ, List.getElem_cons_zero, Act.put, List.setIfInBounds_toArray, List.set_cons_succ, List.set_cons_zero]
  refine wpAnyH_take (i := 5) (v := .int .i64 cf) rfl (by kernel_rfl) (by kernel_rfl) (by kernel_rfl) (fun _ _ _ h => h) (.inl ⟨rfl, fun w_ hS_ => ?_⟩) BC_9.out ?_
  · rw [← HCF.out]
    exact ch_ldf hS_ (by have := HCL.out; omega)
  simp only [List.getElem_toArray, List.getElem_cons_succ, List.getElem_cons_zero, Act.put, List.setIfInBounds_toArray, List.set_cons_succ, List.set_cons_zero]
  refine onlyH 0 (by kernel_rfl) ?_
  refine op_step rfl ?_
  refine Kd.R_lit_step (Kd.int .i64) (w0 := w9) w9.heap.size 3 rfl (N := 53) rfl (xs := ([] : List Int)) (inner := []) (ok := fun _ => True) (okp := fun _ => True) ?hr53 (Reps.none _ _) (fun _ hk => hk) trivial (Below.refl _ _) (Nat.le_refl _) (by simp) ?_
  case hr53 => first | (go_simp; done) | (go_simp; rfl)
  intro vm10 wm10 om10 bm10 hg_ hnew_
  clear hg_ hnew_
  (try simp only [Int.reduceToNat] at om10)
  refine ⟨blk_kept BC_9.out (kept_below bm10) (fun h_ => h_), ?_⟩
  have OM10 := Aside0.mk om10
  have BM10 := Aside0.mk bm10
  clear om10 bm10
  simp only [List.getElem_toArray, List.getElem_cons_succ, List.getElem_cons_zero, Act.put, List.setIfInBounds_toArray, List.set_cons_succ, List.set_cons_zero]
  refine onlyH 2 (by kernel_rfl) ?_
  refine op_step rfl ?_
  refine Kd.R_append_rows_step (Kd.int .i64) (w0 := w9) w9.heap.size rfl (.tmp 53) (.tmp 54) 32 3 (.int .i64 0) 8 rfl Try.underlying32 info3 rfl (by decide) (by omega) vm10 ([] : List Int) Wl _ _ _ (fun _ => True) (fun _ => False) rfl rfl OM10.out (Kd.C_below (Kd.R_reads' OW_9.out).2.2 BM10.out) (fun _ _ h => h) (fun _ h => h.elim) (fun _ _ => trivial) BM10.out BM10.out.size (by have := HLEN.out; simp only [List.length_nil]; omega) ?_
  intro va10 w10 ho10 b10 hg hat
  clear hg hat
  rw [List.nil_append] at ho10
  obtain ⟨Ab, cb, rfl⟩ := Kd.R_slice ho10
  refine ⟨blk_kept BC_9.out (kept_below b10) (fun h_ => h_), ?_⟩
  have K9 := kept_below b10
  have HB10 := Aside0.mk (below_then HB9.out HB9.out.size b10)
  obtain ⟨s10, L10, Sz10⟩ := size_letter Sz9 K9
  have SRC_10 := Aside0.mk (IsS68.below SRC_9.out b10)
  clear SRC_9
  have OW_10 := Aside0.mk (Kd.R_kept OW_9.out K9 (fun _ _ h_ => h_))
  clear OW_9
  have Oa_10 := Aside0.mk (Kd.R_kept Oa_9.out K9 (fun _ _ h_ => h_))
  clear Oa_9
  have BC_10 := Aside0.mk (blk_kept BC_9.out K9 (fun h_ => h_))
  clear BC_9
  have Ob_10 := own_btw ho10 Sz9.out Sz10 HB9.out.size
  clear ho10 b10 HB9 K9
  simp only [List.getElem_toArray, List.getElem_cons_succ, List.getElem_cons_zero, Act.put, List.setIfInBounds_toArray, List.set_cons_succ, List.set_cons_zero]
  refine onlyH 6 (by kernel_rfl) ?_
  refine Go.Proofs.YtjhaofdnlnbajaaW.PrintOrd.op_call rfl rfl Try.func45 (by kernel_rfl) rfl rfl #[.slice Ab Wl.length cb, .int .i64 (wrap64 (2 + n2)), .int .i64 cf] (by (try simp only [List.map_toArray, List.map_cons, List.map_nil]); first | done | rfl) ?_
  refine (impl_MapFree.calls Ab cb Wl (wrap64 (2 + n2)) cf Fr nx 0 w10 (Kd.R_reads' Ob_10.out).2.2 (Kd.R_reads' Ob_10.out).2.1 F6.out).mono ?_
  rintro e_ w11 ⟨vf, rfl, hf, b11⟩
  refine ⟨_, rfl, ?_⟩
  obtain ⟨AF, cF, rfl⟩ := Kd.R_slice hf
  refine ⟨blk_kept BC_10.out (kept_below b11) (fun h_ => h_), ?_⟩
  have K10 := kept_below b11
  have HB11 := Aside0.mk (below_then HB10.out HB10.out.size b11)
  obtain ⟨s11, L11, Sz11⟩ := size_letter Sz10 K10
  have SRC_11 := Aside0.mk (IsS68.below SRC_10.out b11)
  clear SRC_10
  have OW_11 := Aside0.mk (Kd.R_kept OW_10.out K10 (fun _ _ h_ => h_))
  clear OW_10
  have Oa_11 := Aside0.mk (Kd.R_kept Oa_10.out K10 (fun _ _ h_ => h_))
  clear Oa_10
  have BC_11 := Aside0.mk (blk_kept BC_10.out K10 (fun h_ => h_))
  clear BC_10
  have Ob_11 := Aside0.mk (Kd.R_kept Ob_10.out K10 (fun _ _ h_ => h_))
  clear Ob_10
  have OF_11 := own_btw hf Sz10.out Sz11 HB10.out.size
  clear hf b11 HB10 K10
  simp only [List.getElem_toArray, List.getElem_cons_succ, List.getElem_cons_zero, Act.put, List.setIfInBounds_toArray, List.set_cons_succ, List.set_cons_zero]
  refine wpAnyH_take (i := 7) (v := .tuple #[.slice AF Fr.length cF, .int .i64 nx, .int .i64 0]) rfl (by kernel_rfl) (by kernel_rfl) (by kernel_rfl) (fun _ _ _ h => h) (.inl ⟨rfl, fun w_ hS_ => ?_⟩) BC_11.out ?_
  · unfold execOp
    go_simp
    (try rfl)
  simp only [List.getElem_toArray, List.getElem_cons_succ, List.getElem_cons_zero, Act.put, List.setIfInBounds_toArray, List.set_cons_succ, List.set_cons_zero]
  refine wpAnyH_take (i := 8) (v := .slice AF Fr.length cF) rfl (by kernel_rfl) (by kernel_rfl) (by kernel_rfl) (fun _ _ _ h => h) (.inl ⟨rfl, fun w_ hS_ => ?_⟩) BC_11.out ?_
  · unfold execOp
    go_simp
    (try rfl)
  simp only [List.getElem_toArray, List.getElem_cons_succ, List.getElem_cons_zero, Act.put, List.setIfInBounds_toArray, List.set_cons_succ, List.set_cons_zero]
  refine wpAnyH_take (i := 9) (v := .int .i64 nx) rfl (by kernel_rfl) (by kernel_rfl) (by kernel_rfl) (fun _ _ _ h => h) (.inl ⟨rfl, fun w_ hS_ => ?_⟩) BC_11.out ?_
  · unfold execOp
    go_simp
    (try rfl)
  simp only [List.getElem_toArray, List.getElem_cons_succ, List.getElem_cons_zero, Act.put, List.setIfInBounds_toArray, List.set_cons_succ, List.set_cons_zero]
  refine wpAnyH_take (i := 10) (v := .int .i64 0) rfl (by kernel_rfl) (by kernel_rfl) (by kernel_rfl) (fun _ _ _ h => h) (.inl ⟨rfl, fun w_ hS_ => ?_⟩) BC_11.out ?_
  · unfold execOp
    go_simp
    (try rfl)
  simp only [List.getElem_toArray, List.getElem_cons_succ, List.getElem_cons_zero, Act.put, List.setIfInBounds_toArray, List.set_cons_succ, List.set_cons_zero]
  refine wpAnyH_take (i := 11) (v := .slice AF Fr.length cF) rfl (by kernel_rfl) (by kernel_rfl) (by kernel_rfl) (fun _ _ _ h => h) (.inl ⟨rfl, fun w_ hS_ => ?_⟩) BC_11.out ?_
  · unfold execOp
    go_simp
    (try rfl)
  simp only [List.getElem_toArray, List.getElem_cons_succ, List.getElem_cons_zero, Act.put, List.setIfInBounds_toArray, List.set_cons_succ, List.set_cons_zero]
  refine wpAnyH_take (i := 12) (v := .int .i64 nx) rfl (by kernel_rfl) (by kernel_rfl) (by kernel_rfl) (fun _ _ _ h => h) (.inl ⟨rfl, fun w_ hS_ => ?_⟩) BC_11.out ?_
  · unfold execOp
    go_simp
    (try rfl)
  simp only [List.getElem_toArray, List.getElem_cons_succ, List.getElem_cons_zero, Act.put, List.setIfInBounds_toArray, List.set_cons_succ, List.set_cons_zero]
  refine wpAnyH_take (i := 13) (v := .int .i64 0) rfl (by kernel_rfl) (by kernel_rfl) (by kernel_rfl) (fun _ _ _ h => h) (.inl ⟨rfl, fun w_ hS_ => ?_⟩) BC_11.out ?_
  · unfold execOp
    go_simp
    (try rfl)
  simp only [List.getElem_toArray, List.getElem_cons_succ, List.getElem_cons_zero, Act.put, List.setIfInBounds_toArray, List.set_cons_succ, List.set_cons_zero]
  refine wpAnyH_done (by kernel_rfl) ?_ _
  go_upto_region 9 with (fail)
  refine wp_region_held (S := fun w_ => w_.heap[s6]? = some (.cells (nums .i64 C).toArray 55 (0, 0))) (by kernel_rfl) ?_
  obtain ⟨w12, hd⟩ : ∃ wd, wd = w11.drew := ⟨_, rfl⟩
  rw [show ({ w11 with drawn := w11.drawn + 1 } : World) = w12 from hd.symm]
  have b12 : Below w11.heap.size w11 w12 := by rw [hd]; exact (Below.refl _ _).drew
  clear hd
  have K11 := kept_below b12
  have HB12 := Aside0.mk (below_then HB11.out HB11.out.size b12)
  obtain ⟨s12, L12, Sz12⟩ := size_letter Sz11 K11
  have SRC_12 := Aside0.mk (IsS68.below SRC_11.out b12)
  clear SRC_11
  have OW_12 := Aside0.mk (Kd.R_kept OW_11.out K11 (fun _ _ h_ => h_))
  clear OW_11
  have Oa_12 := Aside0.mk (Kd.R_kept Oa_11.out K11 (fun _ _ h_ => h_))
  clear Oa_11
  have BC_12 := Aside0.mk (blk_kept BC_11.out K11 (fun h_ => h_))
  clear BC_11
  have Ob_12 := Aside0.mk (Kd.R_kept Ob_11.out K11 (fun _ _ h_ => h_))
  clear Ob_11
  have OF_12 := Aside0.mk (Kd.R_kept OF_11.out K11 (fun _ _ h_ => h_))
  clear OF_11
  clear b12 HB11 K11
  refine wpAnyH_take (i := 1) (v := .slice AW Wl.length cW) rfl (by kernel_rfl) (by kernel_rfl) (by kernel_rfl) (fun _ _ _ h => h) (.inl ⟨rfl, fun w_ hS_ => ?_⟩) BC_12.out ?_
  · unfold execOp
    go_simp
    (try rfl)
  simp only [List.getElem_toArray, List.getElem_cons_succ, List.getElem_cons_zero, Act.put, List.setIfInBounds_toArray, List.set_cons_succ, List.set_cons_zero]
  refine wpAnyH_take (i := 3) (v := .int .i64 (wrap64 (2 + n2))) rfl (by kernel_rfl) (by kernel_rfl) (by kernel_rfl) (fun _ _ _ h => h) (.inl ⟨rfl, fun w_ hS_ => ?_⟩) BC_12.out ?_
  · unfold execOp
    go_simp
    (try rfl)
  simp only [List.getElem_toArray, List.getElem_cons_succ, List.getElem_cons_zero, Act.put, List.setIfInBounds_toArray, List.set_cons_succ, List.set_cons_zero]
  refine wpAnyH_take (i := 4) (v := .pointer (some ⟨s6, 1, none⟩)) rfl (by kernel_rfl) (by kernel_rfl) (by kernel_rfl) (fun _ _ _ h => h) (.inl ⟨rfl, fun w_ hS_ => ?_⟩) BC_12.out ?_
  · unfold execOp
    go_simp
    (try rfl)
  simp only [List.getElem_toArray, List.getElem_cons_succ, List.getElem_cons_zero, Act.put, List.setIfInBounds_toArray, List.set_cons_succ, List.set_cons_zero]
  refine wpAnyH_take (i := 5) (v := .int .i64 cf) rfl (by kernel_rfl) (by kernel_rfl) (by kernel_rfl) (fun _ _ _ h => h) (.inl ⟨rfl, fun w_ hS_ => ?_⟩) BC_12.out ?_
  · rw [← HCF.out]
    exact ch_ldf hS_ (by have := HCL.out; omega)
  simp only [List.getElem_toArray, List.getElem_cons_succ, List.getElem_cons_zero, Act.put, List.setIfInBounds_toArray, List.set_cons_succ, List.set_cons_zero]
  refine wpAnyH_take (i := 6) (v := .int .i64 (wrap64 (cf + 1))) rfl (by kernel_rfl) (by kernel_rfl) (by kernel_rfl) (fun _ _ _ h => h) (.inl ⟨rfl, fun w_ hS_ => ?_⟩) BC_12.out ?_
  · unfold execOp
    go_simp
    rw [IntKind.wrap_i64, wrap64]
  simp only [List.getElem_toArray, List.getElem_cons_succ, List.getElem_cons_zero, Act.put, List.setIfInBounds_toArray, List.set_cons_succ, List.set_cons_zero]
  refine onlyH 0 (by kernel_rfl) ?_
  refine op_step rfl ?_
  refine Kd.R_lit_step (Kd.int .i64) (w0 := w12) w12.heap.size 3 rfl (N := 64) rfl (xs := ([] : List Int)) (inner := []) (ok := fun _ => True) (okp := fun _ => True) ?hr64 (Reps.none _ _) (fun _ hk => hk) trivial (Below.refl _ _) (Nat.le_refl _) (by simp) ?_
  case hr64 => first | (go_simp; done) | (go_simp; rfl)
  intro vm13 wm13 om13 bm13 hg_ hnew_
  clear hg_ hnew_
  (try simp only [Int.reduceToNat] at om13)
  refine ⟨blk_kept BC_12.out (kept_below bm13) (fun h_ => h_), ?_⟩
  have OM13 := Aside0.mk om13
  have BM13 := Aside0.mk bm13
  clear om13 bm13
  simp only [List.getElem_toArray, List.getElem_cons_succ, List.getElem_cons_zero, Act.put, List.setIfInBounds_toArray, List.set_cons_succ, List.set_cons_zero]
  refine onlyH 2 (by kernel_rfl) ?_
  refine op_step rfl ?_
  refine Kd.R_append_rows_step (Kd.int .i64) (w0 := w12) w12.heap.size rfl (.tmp 64) (.tmp 65) 32 3 (.int .i64 0) 8 rfl Try.underlying32 info3 rfl (by decide) (by omega) vm13 ([] : List Int) Wl _ _ _ (fun _ => True) (fun _ => False) rfl rfl OM13.out (Kd.C_below (Kd.R_reads' OW_12.out).2.2 BM13.out) (fun _ _ h => h) (fun _ h => h.elim) (fun _ _ => trivial) BM13.out BM13.out.size (by have := HLEN.out; simp only [List.length_nil]; omega) ?_
  intro va13 w13 ho13 b13 hg hat
  clear hg hat
  rw [List.nil_append] at ho13
  obtain ⟨Ad, cd, rfl⟩ := Kd.R_slice ho13
  refine ⟨blk_kept BC_12.out (kept_below b13) (fun h_ => h_), ?_⟩
  have K12 := kept_below b13
  have HB13 := Aside0.mk (below_then HB12.out HB12.out.size b13)
  obtain ⟨s13, L13, Sz13⟩ := size_letter Sz12 K12
  have SRC_13 := Aside0.mk (IsS68.below SRC_12.out b13)
  clear SRC_12
  have OW_13 := Aside0.mk (Kd.R_kept OW_12.out K12 (fun _ _ h_ => h_))
  clear OW_12
  have Oa_13 := Aside0.mk (Kd.R_kept Oa_12.out K12 (fun _ _ h_ => h_))
  clear Oa_12
  have BC_13 := Aside0.mk (blk_kept BC_12.out K12 (fun h_ => h_))
  clear BC_12
  have Ob_13 := Aside0.mk (Kd.R_kept Ob_12.out K12 (fun _ _ h_ => h_))
  clear Ob_12
  have OF_13 := Aside0.mk (Kd.R_kept OF_12.out K12 (fun _ _ h_ => h_))
  clear OF_12
  have Od_13 := own_btw ho13 Sz12.out Sz13 HB12.out.size
  clear ho13 b13 HB12 K12
  simp only [List.getElem_toArray, List.getElem_cons_succ, List.getElem_cons_zero, Act.put, List.setIfInBounds_toArray, List.set_cons_succ, List.set_cons_zero]
  refine onlyH 7 (by kernel_rfl) ?_
  refine Go.Proofs.YtjhaofdnlnbajaaW.PrintOrd.op_call rfl rfl Try.func45 (by kernel_rfl) rfl rfl #[.slice Ad Wl.length cd, .int .i64 (wrap64 (2 + n2)), .int .i64 (wrap64 (cf + 1))] (by (try simp only [List.map_toArray, List.map_cons, List.map_nil]); first | done | rfl) ?_
  refine (impl_MapFree.calls Ad cd Wl (wrap64 (2 + n2)) (wrap64 (cf + 1)) Fq nq 9 w13 (Kd.R_reads' Od_13.out).2.2 (Kd.R_reads' Od_13.out).2.1 F7.out).mono ?_
  rintro e_ w14 ⟨vf, rfl, hf, b14⟩
  refine ⟨_, rfl, ?_⟩
  obtain ⟨AG, cG, rfl⟩ := Kd.R_slice hf
  refine ⟨blk_kept BC_13.out (kept_below b14) (fun h_ => h_), ?_⟩
  have K13 := kept_below b14
  have HB14 := Aside0.mk (below_then HB13.out HB13.out.size b14)
  obtain ⟨s14, L14, Sz14⟩ := size_letter Sz13 K13
  have SRC_14 := Aside0.mk (IsS68.below SRC_13.out b14)
  clear SRC_13
  have OW_14 := Aside0.mk (Kd.R_kept OW_13.out K13 (fun _ _ h_ => h_))
  clear OW_13
  have Oa_14 := Aside0.mk (Kd.R_kept Oa_13.out K13 (fun _ _ h_ => h_))
  clear Oa_13
  have BC_14 := Aside0.mk (blk_kept BC_13.out K13 (fun h_ => h_))
  clear BC_13
  have Ob_14 := Aside0.mk (Kd.R_kept Ob_13.out K13 (fun _ _ h_ => h_))
  clear Ob_13
  have OF_14 := Aside0.mk (Kd.R_kept OF_13.out K13 (fun _ _ h_ => h_))
  clear OF_13
  have Od_14 := Aside0.mk (Kd.R_kept Od_13.out K13 (fun _ _ h_ => h_))
  clear Od_13
  have OG_14 := own_btw hf Sz13.out Sz14 HB13.out.size
  clear hf b14 HB13 K13
  simp only [List.getElem_toArray, List.getElem_cons_succ, List.getElem_cons_zero, Act.put, List.setIfInBounds_toArray, List.set_cons_succ, List.set_cons_zero]
  refine wpAnyH_take (i := 8) (v := .tuple #[.slice AG Fq.length cG, .int .i64 nq, .int .i64 9]) rfl (by kernel_rfl) (by kernel_rfl) (by kernel_rfl) (fun _ _ _ h => h) (.inl ⟨rfl, fun w_ hS_ => ?_⟩) BC_14.out ?_
  · unfold execOp
    go_simp
    (try rfl)
  simp only [List.getElem_toArray, List.getElem_cons_succ, List.getElem_cons_zero, Act.put, List.setIfInBounds_toArray, List.set_cons_succ, List.set_cons_zero]
  refine wpAnyH_take (i := 9) (v := .slice AG Fq.length cG) rfl (by kernel_rfl) (by kernel_rfl) (by kernel_rfl) (fun _ _ _ h => h) (.inl ⟨rfl, fun w_ hS_ => ?_⟩) BC_14.out ?_
  · unfold execOp
    go_simp
    (try rfl)
  simp only [List.getElem_toArray, List.getElem_cons_succ, List.getElem_cons_zero, Act.put, List.setIfInBounds_toArray, List.set_cons_succ, List.set_cons_zero]
  refine wpAnyH_take (i := 10) (v := .int .i64 nq) rfl (by kernel_rfl) (by kernel_rfl) (by kernel_rfl) (fun _ _ _ h => h) (.inl ⟨rfl, fun w_ hS_ => ?_⟩) BC_14.out ?_
  · unfold execOp
    go_simp
    (try rfl)
  simp only [List.getElem_toArray, List.getElem_cons_succ, List.getElem_cons_zero, Act.put, List.setIfInBounds_toArray, List.set_cons_succ, List.set_cons_zero]
  refine wpAnyH_take (i := 11) (v := .int .i64 9) rfl (by kernel_rfl) (by kernel_rfl) (by kernel_rfl) (fun _ _ _ h => h) (.inl ⟨rfl, fun w_ hS_ => ?_⟩) BC_14.out ?_
  · unfold execOp
    go_simp
    (try rfl)
  simp only [List.getElem_toArray, List.getElem_cons_succ, List.getElem_cons_zero, Act.put, List.setIfInBounds_toArray, List.set_cons_succ, List.set_cons_zero]
  refine wpAnyH_take (i := 12) (v := .slice AG Fq.length cG) rfl (by kernel_rfl) (by kernel_rfl) (by kernel_rfl) (fun _ _ _ h => h) (.inl ⟨rfl, fun w_ hS_ => ?_⟩) BC_14.out ?_
  · unfold execOp
    go_simp
    (try rfl)
  simp only [List.getElem_toArray, List.getElem_cons_succ, List.getElem_cons_zero, Act.put, List.setIfInBounds_toArray, List.set_cons_succ, List.set_cons_zero]
  refine wpAnyH_take (i := 13) (v := .int .i64 nq) rfl (by kernel_rfl) (by kernel_rfl) (by kernel_rfl) (fun _ _ _ h => h) (.inl ⟨rfl, fun w_ hS_ => ?_⟩) BC_14.out ?_
  · unfold execOp
    go_simp
    (try rfl)
  simp only [List.getElem_toArray, List.getElem_cons_succ, List.getElem_cons_zero, Act.put, List.setIfInBounds_toArray, List.set_cons_succ, List.set_cons_zero]
  refine wpAnyH_take (i := 14) (v := .int .i64 9) rfl (by kernel_rfl) (by kernel_rfl) (by kernel_rfl) (fun _ _ _ h => h) (.inl ⟨rfl, fun w_ hS_ => ?_⟩) BC_14.out ?_
  · unfold execOp
    go_simp
    (try rfl)
  simp only [List.getElem_toArray, List.getElem_cons_succ, List.getElem_cons_zero, Act.put, List.setIfInBounds_toArray, List.set_cons_succ, List.set_cons_zero]
  refine wpAnyH_done (by kernel_rfl) ?_ _
  go_upto_region 12 with (first | ((with_reducible refine gate_dst (N := 89) rfl ?_); refine Go.Proofs.YtjhaofdnlnbajaaW.PrintTab2.ungd (by rfl) ?_; refine hx_loadf rfl 3 (.tmp 88) rfl s6 1 rfl Try.underlying3 rfl BC_14.out (by have := HCL.out; omega) ?_; rw [HCF.out]) | ((with_reducible refine gate_dst (N := 94) rfl ?_); refine Go.Proofs.YtjhaofdnlnbajaaW.PrintTab2.ungd (by rfl) ?_; refine hx_loadf rfl 3 (.tmp 93) rfl s6 1 rfl Try.underlying3 rfl BC_14.out (by have := HCL.out; omega) ?_; rw [HCF.out]) | ((with_reducible refine gate_dst (N := 96) rfl ?_); refine Go.Proofs.YtjhaofdnlnbajaaW.PrintTab2.ungd (by rfl) ?_; refine hx_loadf rfl 3 (.tmp 95) rfl s6 2 rfl Try.underlying3 rfl BC_14.out (by have := HCL.out; omega) ?_; rw [HCU.out]))
  go_wp2
  (try simp only [Act.put, List.setIfInBounds_toArray, List.set_cons_succ, List.set_cons_zero])
  go_loopg [112] Fr.length (fun kq v112 w15 => ∃ (j nd : Nat), v112 = .int .i64 (j : Int) ∧ Aside0 (kq + j = Fr.length) ∧ Aside0 (w15 = w14.drewN nd))
  case atStart => exact ⟨0, 0, rfl, ⟨by simp⟩, ⟨rfl⟩⟩
  case round =>
    obtain ⟨j, nd, rfl, hkj, hwr⟩ := hrel
    obtain ⟨w15, rfl⟩ : ∃ x, x = wr := ⟨_, rfl⟩
    have hCF : Kd.C (Kd.int .i64) w15 AF Fr.length Fr := by rw [hwr.out]; exact Kd.C_drewN (Kd.R_reads' OF_14.out).2.2 nd
    have hCW : Kd.C (Kd.int .i64) w15 AW Wl.length Wl := by rw [hwr.out]; exact Kd.C_drewN (Kd.R_reads' OW_14.out).2.2 nd
    have CFR := Aside0.mk hCF
    have CWR := Aside0.mk hCW
    clear hCF hCW
    by_cases cj : j < Fr.length
    case pos =>
      have cj0 : decide ((j : Int) < (Fr.length : Int)) = true := decide_eq_true (by omega)
      have cj1 : decide (j < Fr.length) = true := decide_eq_true cj
      have cj2 : ((j : Int) < (Fr.length : Int)) = True := eq_true (by omega)
      have cj3 : (0 ≤ (j : Int)) = True := eq_true (by omega)
      have CJ := Aside0.mk cj
      obtain ⟨b, hb⟩ : ∃ b, b = rd Fr (j : Int) := ⟨_, rfl⟩
      obtain ⟨adF, eF, hxF⟩ := Kd.at_int CFR.out (j : Int) (by omega) (by omega)
      subst eF
      rw [Int.toNat_natCast, ← hb] at hxF
      have HBv := Aside0.mk hb
      clear cj hb
      obtain ⟨hb0, hb1, hb2, hb3⟩ := G5.out j CJ.out
      rw [← HBv.out] at hb0 hb1 hb2 hb3
      obtain ⟨adW, eW, hxW⟩ := Kd.at_int CWR.out b hb0 hb1
      subst eW
      rw [hb2] at hxW
      have HB3 := Aside0.mk hb3
      have cb0 : (0 ≤ b) = True := eq_true hb0
      have cb1 : (b < (Wl.length : Int)) = True := eq_true hb1
      clear hb0 hb1 hb2 hb3
      go_upto_region 15 with (fail)
      by_cases ck : 0 < j
      case neg =>
        have ck0 : decide ((0 : Int) < (j : Int)) = false := decide_eq_false (by omega)
        have ck1 : decide (0 < j) = false := decide_eq_false ck
        clear ck
        go_quiet (fail)
        go_wp2
        cases gk with
        | zero => exact absurd CJ.out (by have := hkj.out; omega)
        | succ gk =>
          go_roundg gk
          case measure => omega
          case rel => exact ⟨j + 1, nd + nq, by rw [show wrap64 ((j : Int) + 1) = ((j + 1 : Nat) : Int) by (have := CJ.out; have := HFL.out; unfold wrap64; omega)], ⟨by have := hkj.out; omega⟩, ⟨by rw [hwr.out, World.drewN_drewN]⟩⟩
      case pos =>
        have ck0 : decide ((0 : Int) < (j : Int)) = true := decide_eq_true (by omega)
        have ck1 : decide (0 < j) = true := decide_eq_true ck
        have hw_ : wrap64 ((j : Int) - 1) = ((j - 1 : Nat) : Int) := by have := CJ.out; have := HFL.out; unfold wrap64; omega
        have cm0 : (0 ≤ wrap64 ((j : Int) - 1)) = True := eq_true (by rw [hw_]; omega)
        have cm1 : (wrap64 ((j : Int) - 1) < (Fr.length : Int)) = True := eq_true (by rw [hw_]; have := CJ.out; omega)
        obtain ⟨adF2, eF2, hxP⟩ := Kd.at_int CFR.out (wrap64 ((j : Int) - 1)) (of_eq_true cm0) (of_eq_true cm1)
        cases eF2
        have h3_ := HB3.out ck
        obtain ⟨bp, hbp⟩ : ∃ y, y = rd Fr (wrap64 ((j : Int) - 1)) := ⟨_, rfl⟩
        rw [← hbp] at hxP h3_
        have c30 : decide (Int.tmod (wrap64 (wrap64 (b - (wrap64 (2 + n2))) + (Wl.length : Int))) (Wl.length : Int) ≤ Int.tmod (wrap64 (wrap64 (bp - (wrap64 (2 + n2))) + (Wl.length : Int))) (Wl.length : Int)) = false := decide_eq_false (by first | exact h3_ | exact Int.not_le.mpr h3_)
        have hWz : ((Wl.length : Int) = 0) = False := eq_false (by have := HLEN.out; omega)
        have hWz2 : (Wl.length = 0) = False := eq_false (by have := HLEN.out; omega)
        clear ck hw_ h3_ hbp
        go_quiet (fail)
        go_wp2
        cases gk with
        | zero => exact absurd CJ.out (by have := hkj.out; omega)
        | succ gk =>
          go_roundg gk
          case measure => omega
          case rel => exact ⟨j + 1, nd + nq, by rw [show wrap64 ((j : Int) + 1) = ((j + 1 : Nat) : Int) by (have := CJ.out; have := HFL.out; unfold wrap64; omega)], ⟨by have := hkj.out; omega⟩, ⟨by rw [hwr.out, World.drewN_drewN]⟩⟩
    case neg =>
      have cj0 : decide ((j : Int) < (Fr.length : Int)) = false := decide_eq_false (by omega)
      have cj1 : decide (j < Fr.length) = false := decide_eq_false cj
      clear cj CFR CWR
      have b15 : Below w14.heap.size w14 w15 := by rw [hwr.out]; exact pw_below_drewN (Below.refl _ _) nd
      clear hwr hkj
      have K14 := kept_below b15
      have HB15 := Aside0.mk (below_then HB14.out HB14.out.size b15)
      obtain ⟨s15, L15, Sz15⟩ := size_letter Sz14 K14
      have SRC_15 := Aside0.mk (IsS68.below SRC_14.out b15)
      clear SRC_14
      have OW_15 := Aside0.mk (Kd.R_kept OW_14.out K14 (fun _ _ h_ => h_))
      clear OW_14
      have Oa_15 := Aside0.mk (Kd.R_kept Oa_14.out K14 (fun _ _ h_ => h_))
      clear Oa_14
      have BC_15 := Aside0.mk (blk_kept BC_14.out K14 (fun h_ => h_))
      clear BC_14
      have Ob_15 := Aside0.mk (Kd.R_kept Ob_14.out K14 (fun _ _ h_ => h_))
      clear Ob_14
      have OF_15 := Aside0.mk (Kd.R_kept OF_14.out K14 (fun _ _ h_ => h_))
      clear OF_14
      have Od_15 := Aside0.mk (Kd.R_kept Od_14.out K14 (fun _ _ h_ => h_))
      clear Od_14
      have OG_15 := Aside0.mk (Kd.R_kept OG_14.out K14 (fun _ _ h_ => h_))
      clear OG_14
      clear b15 HB14 K14
      go_wp2_with (first | ((with_reducible refine gate_dst (N := 149) rfl ?_); refine goesL_ (some 149) rfl rfl Try.func20 (by kernel_rfl) rfl #[.pointer (some ⟨g, 0, none⟩), .int .i64 32] rfl (by (try simp only [List.map_toArray, List.map_cons, List.map_nil]); first | done | rfl) ?_; refine (spec_l01Src_N.calls g _ _ _ _ _ _ _ w w15 SRC_15.out HB15.out F8.out).mono ?_; rintro e_ w16 ⟨rfl, hI16, hB16, hK16⟩; refine ⟨_, rfl, ?_⟩; have K15 := kept_keep hK16; have HB16 := Aside0.mk hB16; obtain ⟨s16, L16, Sz16⟩ := size_letter Sz15 K15; have SRC_16 := Aside0.mk hI16; clear SRC_15; have OW_16 := Aside0.mk (Kd.R_kept OW_15.out K15 (fun k_ hk_ (he_ : k_ = g) => by have h1_ := hk_.1; have h2_ := hk_.2; have := hgs.out; omega)); clear OW_15; have Oa_16 := Aside0.mk (Kd.R_kept Oa_15.out K15 (fun k_ hk_ (he_ : k_ = g) => by have h1_ := hk_.1; have h2_ := hk_.2; have := hgs.out; omega)); clear Oa_15; have BC_16 := Aside0.mk (blk_kept BC_15.out K15 (fun (h_ : _ = g) => by have := hgs.out; omega)); clear BC_15; have Ob_16 := Aside0.mk (Kd.R_kept Ob_15.out K15 (fun k_ hk_ (he_ : k_ = g) => by have h1_ := hk_.1; have h2_ := hk_.2; have := hgs.out; omega)); clear Ob_15; have OF_16 := Aside0.mk (Kd.R_kept OF_15.out K15 (fun k_ hk_ (he_ : k_ = g) => by have h1_ := hk_.1; have h2_ := hk_.2; have := hgs.out; omega)); clear OF_15; have Od_16 := Aside0.mk (Kd.R_kept Od_15.out K15 (fun k_ hk_ (he_ : k_ = g) => by have h1_ := hk_.1; have h2_ := hk_.2; have := hgs.out; omega)); clear Od_15; have OG_16 := Aside0.mk (Kd.R_kept OG_15.out K15 (fun k_ hk_ (he_ : k_ = g) => by have h1_ := hk_.1; have h2_ := hk_.2; have := hgs.out; omega)); clear OG_15; clear hI16 hB16 hK16 HB15 K15) | ((with_reducible refine gate_dst (N := 150) rfl ?_); refine Kd.R_lit (Kd.int .i64) (w0 := w16) w16.heap.size 3 ?hg (N := 150) ?hd (xs := ([] : List Int)) (inner := []) (ok := fun _ => True) (okp := fun _ => True) ?hr ?hp (fun _ hk => hk) trivial (Below.refl _ _) (Nat.le_refl _) (by simp) ?_; (case hd => rfl); (case hg => rfl); (case hr => first | (go_simp; done) | (go_simp; rfl)); (case hp => exact (Reps.none _ _)); intro vs wm17 om17 bm17 hg_ hnew_; clear hg_ hnew_; (try simp only [Int.reduceToNat] at om17); have OM17 := Aside0.mk om17; have BM17 := Aside0.mk bm17; clear om17 bm17))
      (try simp only [Act.put, List.setIfInBounds_toArray, List.set_cons_succ, List.set_cons_zero])
      go_loopg [18, 19] (Wl.length - 2) (fun kq v18 v19 wr => ∃ (i : Nat), v19 = .int .i64 (i : Int) ∧ Aside0 (2 ≤ i) ∧ Aside0 (kq + i = Wl.length) ∧ Aside0 (Kd.R (Kd.int .i64) 3 wr w16.heap.size (fun _ => True) v18 (setP Wl pl i)) ∧ Aside0 (Below w16.heap.size w16 wr))
      case atStart => exact ⟨2, rfl, ⟨by omega⟩, ⟨by have := HLEN.out; omega⟩, OM17, BM17⟩
      case round =>
        obtain ⟨i, rfl, hi2, hki, hOS, hBS⟩ := hrel
        obtain ⟨w17, rfl⟩ : ∃ x, x = wr := ⟨_, rfl⟩
        have hCW : Kd.C (Kd.int .i64) w17 AW Wl.length Wl := Kd.C_below (Kd.R_reads' OW_16.out).2.2 hBS.out
        have CWR := Aside0.mk hCW
        clear hCW
        by_cases ci : i < Wl.length
        case pos =>
          have ci0 : decide ((i : Int) < (Wl.length : Int)) = true := decide_eq_true (by omega)
          have ci1 : decide (i < Wl.length) = true := decide_eq_true ci
          have ci2 : ((i : Int) < (Wl.length : Int)) = True := eq_true (by omega)
          have ci3 : (0 ≤ (i : Int)) = True := eq_true (by omega)
          have CI := Aside0.mk ci
          obtain ⟨x, hx⟩ : ∃ x, x = rd Wl (i : Int) := ⟨_, rfl⟩
          obtain ⟨adW, eW, hxW⟩ := Kd.at_int CWR.out (i : Int) (by omega) (by omega)
          subst eW
          rw [Int.toNat_natCast, ← hx] at hxW
          have HXV := Aside0.mk hx
          have hpl0 : (0 ≤ pl) = True := eq_true HPL.out.1
          have hpl1 : (pl < 0) = False := eq_false (by have := HPL.out.1; omega)
          clear ci hx
          by_cases cb : Int.tmod (x / 2 ^ min pl.toNat 64) 2 = 1
          case neg =>
            have cb0 : (Int.tmod (x / 2 ^ min pl.toNat 64) 2 == 1) = false := beq_eq_false_iff_ne.mpr cb
            have CB := Aside0.mk cb
            clear cb
            go_wp2
            cases gk with
            | zero => exact absurd CI.out (by have := hki.out; omega)
            | succ gk =>
              go_roundg gk
              case measure => omega
              case rel => exact ⟨i + 1, by rw [show wrap64 ((i : Int) + 1) = ((i + 1 : Nat) : Int) by (have := CI.out; have := HLEN.out; unfold wrap64; omega)], ⟨by have := hi2.out; omega⟩, ⟨by have := hki.out; omega⟩, ⟨by rw [setP_miss hi2.out HXV.out CB.out]; exact hOS.out⟩, hBS⟩
          case pos =>
            have cb0 : (Int.tmod (x / 2 ^ min pl.toNat 64) 2 == 1) = true := beq_iff_eq.mpr cb
            have CB := Aside0.mk cb
            clear cb
            go_wp2_with (first | ((with_reducible refine gate_builtin (b := .append) (xs := #[.tmp 164, .tmp 166]) rfl ?_); at_builtin; refine Kd.R_append (Kd.int .i64) (w0 := w16) w16.heap.size rfl (.tmp 164) (.tmp 166) 32 3 (.int .i64 0) 8 rfl Try.underlying32 info3 rfl (by decide) (by omega) u18 (setP Wl pl i) (i : Int) [.int .i64 (i : Int)] (fun _ => True) (fun _ => False) rfl rfl ?aP (fun _ hk => hk.elim) ?aF ?aO ?aB ?aS ?aL ?_; (case aP => exact rfl); (case aB => exact (by repeat (first | (with_reducible first | exact hBS.out | apply below_alloc | apply pw_below_drewN | apply below_drew1) | exact hBS.out))); (case aF => exact (fun _ _ => trivial)); (case aO => exact (by (with_reducible repeat (first | apply Kd.R_alloc | apply Kd.R_drewN | apply Kd.R_drew)); exact hOS.out)); (case aS => exact (below_size (by repeat (first | (with_reducible first | exact hBS.out | apply below_alloc | apply pw_below_drewN | apply below_drew1) | exact hBS.out)))); (case aL => have h_ := setP_le Wl pl i; have := CI.out; have := HLEN.out; omega); intro vn wn ho hb hg hat; clear hg hat; have HON := Aside0.mk ho; have HBN := Aside0.mk hb; clear ho hb))
            cases gk with
            | zero => exact absurd CI.out (by have := hki.out; omega)
            | succ gk =>
              go_roundg gk
              case measure => omega
              case rel => exact ⟨i + 1, by rw [show wrap64 ((i : Int) + 1) = ((i + 1 : Nat) : Int) by (have := CI.out; have := HLEN.out; unfold wrap64; omega)], ⟨by have := hi2.out; omega⟩, ⟨by have := hki.out; omega⟩, ⟨by rw [setP_hit hi2.out HXV.out CB.out]; exact HON.out⟩, HBN⟩
        case neg =>
          have ci0 : decide ((i : Int) < (Wl.length : Int)) = false := decide_eq_false (by omega)
          have ci1 : decide (i < Wl.length) = false := decide_eq_false ci
          have hi_ : i = Wl.length := by have := hki.out; omega
          subst hi_
          have hOS2 := hOS.out
          rw [HST.out] at hOS2
          obtain ⟨AS, cS, rfl⟩ := Kd.R_slice hOS2
          have b17 := hBS.out
          clear hOS hBS hki hi2 ci CWR
          have K16 := kept_below b17
          have HB17 := Aside0.mk (below_then HB16.out HB16.out.size b17)
          obtain ⟨s17, L17, Sz17⟩ := size_letter Sz16 K16
          have SRC_17 := Aside0.mk (IsS68.below SRC_16.out b17)
          clear SRC_16
          have OW_17 := Aside0.mk (Kd.R_kept OW_16.out K16 (fun _ _ h_ => h_))
          clear OW_16
          have Oa_17 := Aside0.mk (Kd.R_kept Oa_16.out K16 (fun _ _ h_ => h_))
          clear Oa_16
          have BC_17 := Aside0.mk (blk_kept BC_16.out K16 (fun h_ => h_))
          clear BC_16
          have Ob_17 := Aside0.mk (Kd.R_kept Ob_16.out K16 (fun _ _ h_ => h_))
          clear Ob_16
          have OF_17 := Aside0.mk (Kd.R_kept OF_16.out K16 (fun _ _ h_ => h_))
          clear OF_16
          have Od_17 := Aside0.mk (Kd.R_kept Od_16.out K16 (fun _ _ h_ => h_))
          clear Od_16
          have OG_17 := Aside0.mk (Kd.R_kept OG_16.out K16 (fun _ _ h_ => h_))
          clear OG_16
          have OS_17 := own_btw hOS2 Sz16.out Sz17 HB16.out.size
          clear hOS2 b17 HB16 K16
          go_upto_region 27 with (first | ((with_reducible refine gate_dst (N := 169) rfl ?_); refine Kd.R_lit (Kd.int .i64) (w0 := w17) w17.heap.size 3 ?hg (N := 169) ?hd (xs := ([] : List Int)) (inner := []) (ok := fun _ => True) (okp := fun _ => True) ?hr ?hp (fun _ hk => hk) trivial (Below.refl _ _) (Nat.le_refl _) (by simp) ?_; (case hd => rfl); (case hg => rfl); (case hr => first | (go_simp; done) | (go_simp; rfl)); (case hp => exact (Reps.none _ _)); intro vm18 wm18 om18 bm18 hg_ hnew_; clear hg_ hnew_; (try simp only [Int.reduceToNat] at om18); have OM18 := Aside0.mk om18; have BM18 := Aside0.mk bm18; clear om18 bm18) | ((with_reducible refine gate_dst (N := 171) rfl ?_); refine Kd.R_append_rows (Kd.int .i64) (w0 := w17) w17.heap.size rfl (.tmp 169) (.tmp 170) 32 3 (.int .i64 0) 8 rfl Try.underlying32 info3 rfl (by decide) (by omega) vm18 ([] : List Int) Wl _ _ _ (fun _ => True) (fun _ => False) rfl rfl ?aO ?aR (fun _ _ h => h) (fun _ h => h.elim) ?aF ?aB ?aS ?aL ?_; (case aO => exact OM18.out); (case aR => exact Kd.C_below (Kd.R_reads' OW_17.out).2.2 BM18.out); (case aF => exact (fun _ _ => trivial)); (case aB => exact BM18.out); (case aS => exact BM18.out.size); (case aL => have := HLEN.out; have := HM1.out; have := HSL.out; simp only [List.length_nil]; omega); intro va18 w18 ho18 b18 hg hat; clear hg hat; rw [List.nil_append] at ho18; obtain ⟨Ae, ce, rfl⟩ := Kd.R_slice ho18; have K17 := kept_below b18; have HB18 := Aside0.mk (below_then HB17.out HB17.out.size b18); obtain ⟨s18, L18, Sz18⟩ := size_letter Sz17 K17; have SRC_18 := Aside0.mk (IsS68.below SRC_17.out b18); clear SRC_17; have OW_18 := Aside0.mk (Kd.R_kept OW_17.out K17 (fun _ _ h_ => h_)); clear OW_17; have Oa_18 := Aside0.mk (Kd.R_kept Oa_17.out K17 (fun _ _ h_ => h_)); clear Oa_17; have BC_18 := Aside0.mk (blk_kept BC_17.out K17 (fun h_ => h_)); clear BC_17; have Ob_18 := Aside0.mk (Kd.R_kept Ob_17.out K17 (fun _ _ h_ => h_)); clear Ob_17; have OF_18 := Aside0.mk (Kd.R_kept OF_17.out K17 (fun _ _ h_ => h_)); clear OF_17; have Od_18 := Aside0.mk (Kd.R_kept Od_17.out K17 (fun _ _ h_ => h_)); clear Od_17; have OG_18 := Aside0.mk (Kd.R_kept OG_17.out K17 (fun _ _ h_ => h_)); clear OG_17; have OS_18 := Aside0.mk (Kd.R_kept OS_17.out K17 (fun _ _ h_ => h_)); clear OS_17; have Oe_18 := own_btw ho18 Sz17.out Sz18 HB17.out.size; clear ho18 b18 HB17 K17) | ((with_reducible refine gate_dst (N := 173) rfl ?_); refine goesL_ (some 173) rfl rfl Try.func43 (by kernel_rfl) rfl #[.slice Ae Wl.length ce, .int .i64 pl, .slice none 0 0] rfl (by (try simp only [List.map_toArray, List.map_cons, List.map_nil]); first | done | rfl) ?_; refine (impl_MapPlane.calls k Ae ce Wl pl none 0 [] M1 0 w18 (Kd.R_reads' Oe_18.out).2.2 (Kd.R_reads' Oe_18.out).2.1 (Kd.C_nil _ _) (Nat.le_refl _) F9.out).mono ?_; rintro e_ w19 ⟨vr, rfl, ho, b19⟩; refine ⟨_, rfl, ?_⟩; obtain ⟨AN, cN, rfl⟩ := Kd.R_slice ho; have K18 := kept_below b19; have HB19 := Aside0.mk (below_then HB18.out HB18.out.size b19); obtain ⟨s19, L19, Sz19⟩ := size_letter Sz18 K18; have SRC_19 := Aside0.mk (IsS68.below SRC_18.out b19); clear SRC_18; have OW_19 := Aside0.mk (Kd.R_kept OW_18.out K18 (fun _ _ h_ => h_)); clear OW_18; have Oa_19 := Aside0.mk (Kd.R_kept Oa_18.out K18 (fun _ _ h_ => h_)); clear Oa_18; have BC_19 := Aside0.mk (blk_kept BC_18.out K18 (fun h_ => h_)); clear BC_18; have Ob_19 := Aside0.mk (Kd.R_kept Ob_18.out K18 (fun _ _ h_ => h_)); clear Ob_18; have OF_19 := Aside0.mk (Kd.R_kept OF_18.out K18 (fun _ _ h_ => h_)); clear OF_18; have Od_19 := Aside0.mk (Kd.R_kept Od_18.out K18 (fun _ _ h_ => h_)); clear Od_18; have OG_19 := Aside0.mk (Kd.R_kept OG_18.out K18 (fun _ _ h_ => h_)); clear OG_18; have OS_19 := Aside0.mk (Kd.R_kept OS_18.out K18 (fun _ _ h_ => h_)); clear OS_18; have Oe_19 := Aside0.mk (Kd.R_kept Oe_18.out K18 (fun _ _ h_ => h_)); clear Oe_18; have ON_19 := own_btw ho Sz18.out Sz19 HB18.out.size; clear ho b19 HB18 K18) | ((with_reducible refine gate_dst (N := 177) rfl ?_); refine Kd.R_lit (Kd.int .i64) (w0 := w19) w19.heap.size 3 ?hg (N := 177) ?hd (xs := ([] : List Int)) (inner := []) (ok := fun _ => True) (okp := fun _ => True) ?hr ?hp (fun _ hk => hk) trivial (Below.refl _ _) (Nat.le_refl _) (by simp) ?_; (case hd => rfl); (case hg => rfl); (case hr => first | (go_simp; done) | (go_simp; rfl)); (case hp => exact (Reps.none _ _)); intro vm20 wm20 om20 bm20 hg_ hnew_; clear hg_ hnew_; (try simp only [Int.reduceToNat] at om20); have OM20 := Aside0.mk om20; have BM20 := Aside0.mk bm20; clear om20 bm20) | ((with_reducible refine gate_dst (N := 179) rfl ?_); refine Kd.R_append_rows (Kd.int .i64) (w0 := w19) w19.heap.size rfl (.tmp 177) (.tmp 178) 32 3 (.int .i64 0) 8 rfl Try.underlying32 info3 rfl (by decide) (by omega) vm20 ([] : List Int) M1 _ _ _ (fun _ => True) (fun _ => False) rfl rfl ?aO ?aR (fun _ _ h => h) (fun _ h => h.elim) ?aF ?aB ?aS ?aL ?_; (case aO => exact OM20.out); (case aR => exact Kd.C_below (Kd.R_reads' ON_19.out).2.2 BM20.out); (case aF => exact (fun _ _ => trivial)); (case aB => exact BM20.out); (case aS => exact BM20.out.size); (case aL => have := HLEN.out; have := HM1.out; have := HSL.out; simp only [List.length_nil]; omega); intro va20 w20 ho20 b20 hg hat; clear hg hat; rw [List.nil_append] at ho20; obtain ⟨Ah, ch, rfl⟩ := Kd.R_slice ho20; have K19 := kept_below b20; have HB20 := Aside0.mk (below_then HB19.out HB19.out.size b20); obtain ⟨s20, L20, Sz20⟩ := size_letter Sz19 K19; have SRC_20 := Aside0.mk (IsS68.below SRC_19.out b20); clear SRC_19; have OW_20 := Aside0.mk (Kd.R_kept OW_19.out K19 (fun _ _ h_ => h_)); clear OW_19; have Oa_20 := Aside0.mk (Kd.R_kept Oa_19.out K19 (fun _ _ h_ => h_)); clear Oa_19; have BC_20 := Aside0.mk (blk_kept BC_19.out K19 (fun h_ => h_)); clear BC_19; have Ob_20 := Aside0.mk (Kd.R_kept Ob_19.out K19 (fun _ _ h_ => h_)); clear Ob_19; have OF_20 := Aside0.mk (Kd.R_kept OF_19.out K19 (fun _ _ h_ => h_)); clear OF_19; have Od_20 := Aside0.mk (Kd.R_kept Od_19.out K19 (fun _ _ h_ => h_)); clear Od_19; have OG_20 := Aside0.mk (Kd.R_kept OG_19.out K19 (fun _ _ h_ => h_)); clear OG_19; have OS_20 := Aside0.mk (Kd.R_kept OS_19.out K19 (fun _ _ h_ => h_)); clear OS_19; have Oe_20 := Aside0.mk (Kd.R_kept Oe_19.out K19 (fun _ _ h_ => h_)); clear Oe_19; have ON_20 := Aside0.mk (Kd.R_kept ON_19.out K19 (fun _ _ h_ => h_)); clear ON_19; have Oh_20 := own_btw ho20 Sz19.out Sz20 HB19.out.size; clear ho20 b20 HB19 K19) | ((with_reducible refine gate_dst (N := 181) rfl ?_); refine Kd.R_lit (Kd.int .i64) (w0 := w20) w20.heap.size 3 ?hg (N := 181) ?hd (xs := ([] : List Int)) (inner := []) (ok := fun _ => True) (okp := fun _ => True) ?hr ?hp (fun _ hk => hk) trivial (Below.refl _ _) (Nat.le_refl _) (by simp) ?_; (case hd => rfl); (case hg => rfl); (case hr => first | (go_simp; done) | (go_simp; rfl)); (case hp => exact (Reps.none _ _)); intro vm21 wm21 om21 bm21 hg_ hnew_; clear hg_ hnew_; (try simp only [Int.reduceToNat] at om21); have OM21 := Aside0.mk om21; have BM21 := Aside0.mk bm21; clear om21 bm21) | ((with_reducible refine gate_dst (N := 183) rfl ?_); refine Kd.R_append_rows (Kd.int .i64) (w0 := w20) w20.heap.size rfl (.tmp 181) (.tmp 182) 32 3 (.int .i64 0) 8 rfl Try.underlying32 info3 rfl (by decide) (by omega) vm21 ([] : List Int) St _ _ _ (fun _ => True) (fun _ => False) rfl rfl ?aO ?aR (fun _ _ h => h) (fun _ h => h.elim) ?aF ?aB ?aS ?aL ?_; (case aO => exact OM21.out); (case aR => exact Kd.C_below (Kd.R_reads' OS_20.out).2.2 BM21.out); (case aF => exact (fun _ _ => trivial)); (case aB => exact BM21.out); (case aS => exact BM21.out.size); (case aL => have := HLEN.out; have := HM1.out; have := HSL.out; simp only [List.length_nil]; omega); intro va21 w21 ho21 b21 hg hat; clear hg hat; rw [List.nil_append] at ho21; obtain ⟨Av, cv, rfl⟩ := Kd.R_slice ho21; have K20 := kept_below b21; have HB21 := Aside0.mk (below_then HB20.out HB20.out.size b21); obtain ⟨s21, L21, Sz21⟩ := size_letter Sz20 K20; have SRC_21 := Aside0.mk (IsS68.below SRC_20.out b21); clear SRC_20; have OW_21 := Aside0.mk (Kd.R_kept OW_20.out K20 (fun _ _ h_ => h_)); clear OW_20; have Oa_21 := Aside0.mk (Kd.R_kept Oa_20.out K20 (fun _ _ h_ => h_)); clear Oa_20; have BC_21 := Aside0.mk (blk_kept BC_20.out K20 (fun h_ => h_)); clear BC_20; have Ob_21 := Aside0.mk (Kd.R_kept Ob_20.out K20 (fun _ _ h_ => h_)); clear Ob_20; have OF_21 := Aside0.mk (Kd.R_kept OF_20.out K20 (fun _ _ h_ => h_)); clear OF_20; have Od_21 := Aside0.mk (Kd.R_kept Od_20.out K20 (fun _ _ h_ => h_)); clear Od_20; have OG_21 := Aside0.mk (Kd.R_kept OG_20.out K20 (fun _ _ h_ => h_)); clear OG_20; have OS_21 := Aside0.mk (Kd.R_kept OS_20.out K20 (fun _ _ h_ => h_)); clear OS_20; have Oe_21 := Aside0.mk (Kd.R_kept Oe_20.out K20 (fun _ _ h_ => h_)); clear Oe_20; have ON_21 := Aside0.mk (Kd.R_kept ON_20.out K20 (fun _ _ h_ => h_)); clear ON_20; have Oh_21 := Aside0.mk (Kd.R_kept Oh_20.out K20 (fun _ _ h_ => h_)); clear Oh_20; have Ov_21 := own_btw ho21 Sz20.out Sz21 HB20.out.size; clear ho21 b21 HB20 K20) | ((with_reducible refine gate_dst (N := 184) rfl ?_); refine goesL_ (some 184) rfl rfl Try.func43 (by kernel_rfl) rfl #[.slice Ah M1.length ch, .int .i64 pl, .slice Av St.length cv] rfl (by (try simp only [List.map_toArray, List.map_cons, List.map_nil]); first | done | rfl) ?_; refine (impl_MapPlane.calls k Ah ch M1 pl Av cv St Wl 0 w21 (Kd.R_reads' Oh_21.out).2.2 (Kd.R_reads' Oh_21.out).2.1 (Kd.R_reads' Ov_21.out).2.2 (Kd.R_reads' Ov_21.out).2.1 F10.out).mono ?_; rintro e_ w22 ⟨vr, rfl, ho, b22⟩; refine ⟨_, rfl, ?_⟩; obtain ⟨AB, cB, rfl⟩ := Kd.R_slice ho; have K21 := kept_below b22; have HB22 := Aside0.mk (below_then HB21.out HB21.out.size b22); obtain ⟨s22, L22, Sz22⟩ := size_letter Sz21 K21; have SRC_22 := Aside0.mk (IsS68.below SRC_21.out b22); clear SRC_21; have OW_22 := Aside0.mk (Kd.R_kept OW_21.out K21 (fun _ _ h_ => h_)); clear OW_21; have Oa_22 := Aside0.mk (Kd.R_kept Oa_21.out K21 (fun _ _ h_ => h_)); clear Oa_21; have BC_22 := Aside0.mk (blk_kept BC_21.out K21 (fun h_ => h_)); clear BC_21; have Ob_22 := Aside0.mk (Kd.R_kept Ob_21.out K21 (fun _ _ h_ => h_)); clear Ob_21; have OF_22 := Aside0.mk (Kd.R_kept OF_21.out K21 (fun _ _ h_ => h_)); clear OF_21; have Od_22 := Aside0.mk (Kd.R_kept Od_21.out K21 (fun _ _ h_ => h_)); clear Od_21; have OG_22 := Aside0.mk (Kd.R_kept OG_21.out K21 (fun _ _ h_ => h_)); clear OG_21; have OS_22 := Aside0.mk (Kd.R_kept OS_21.out K21 (fun _ _ h_ => h_)); clear OS_21; have Oe_22 := Aside0.mk (Kd.R_kept Oe_21.out K21 (fun _ _ h_ => h_)); clear Oe_21; have ON_22 := Aside0.mk (Kd.R_kept ON_21.out K21 (fun _ _ h_ => h_)); clear ON_21; have Oh_22 := Aside0.mk (Kd.R_kept Oh_21.out K21 (fun _ _ h_ => h_)); clear Oh_21; have Ov_22 := Aside0.mk (Kd.R_kept Ov_21.out K21 (fun _ _ h_ => h_)); clear Ov_21; have OB_22 := own_btw ho Sz21.out Sz22 HB21.out.size; clear ho b22 HB21 K21))
          rcases HFX.out with ⟨cz, rfl⟩ | ⟨cz, rfl⟩
          case inl =>
            have z0 : (pl == 0) = true := beq_iff_eq.mpr cz
            clear cz
            have y0 : (wrap64 ((St.length : Int) + 2) != wrap64 ((St.length : Int) + 2)) = false := bne_self_eq_false _
            have y1 : ((Wl.length : Int) != (Wl.length : Int)) = false := bne_self_eq_false _
            have hp0 : (0 ≤ pl) = True := eq_true HPL.out.1
            have hp1 : (pl < 32) = True := eq_true HPL.out.2
            go_upto_region 33 with (first | ((with_reducible refine gate_dst (N := 190) rfl ?_); refine Kd.R_lit (Kd.int .i64) (w0 := w22) w22.heap.size 3 ?hg (N := 190) ?hd (xs := ([] : List Int)) (inner := []) (ok := fun _ => True) (okp := fun _ => True) ?hr ?hp (fun _ hk => hk) trivial (Below.refl _ _) (Nat.le_refl _) (by simp) ?_; (case hd => rfl); (case hg => rfl); (case hr => first | (go_simp; done) | (go_simp; rfl)); (case hp => exact (Reps.none _ _)); intro vm23 wm23 om23 bm23 hg_ hnew_; clear hg_ hnew_; (try simp only [Int.reduceToNat] at om23); have OM23 := Aside0.mk om23; have BM23 := Aside0.mk bm23; clear om23 bm23) | ((with_reducible refine gate_dst (N := 192) rfl ?_); refine Kd.R_append_rows (Kd.int .i64) (w0 := w22) w22.heap.size rfl (.tmp 190) (.tmp 191) 32 3 (.int .i64 0) 8 rfl Try.underlying32 info3 rfl (by decide) (by omega) vm23 ([] : List Int) M1 _ _ _ (fun _ => True) (fun _ => False) rfl rfl ?aO ?aR (fun _ _ h => h) (fun _ h => h.elim) ?aF ?aB ?aS ?aL ?_; (case aO => exact OM23.out); (case aR => exact Kd.C_below (Kd.R_reads' ON_22.out).2.2 BM23.out); (case aF => exact (fun _ _ => trivial)); (case aB => exact BM23.out); (case aS => exact BM23.out.size); (case aL => have := HLEN.out; have := HM1.out; have := HSL.out; simp only [List.length_nil]; omega); intro va23 w23 ho23 b23 hg hat; clear hg hat; rw [List.nil_append] at ho23; obtain ⟨Ay, cy, rfl⟩ := Kd.R_slice ho23; have K22 := kept_below b23; have HB23 := Aside0.mk (below_then HB22.out HB22.out.size b23); obtain ⟨s23, L23, Sz23⟩ := size_letter Sz22 K22; have SRC_23 := Aside0.mk (IsS68.below SRC_22.out b23); clear SRC_22; have OW_23 := Aside0.mk (Kd.R_kept OW_22.out K22 (fun _ _ h_ => h_)); clear OW_22; have Oa_23 := Aside0.mk (Kd.R_kept Oa_22.out K22 (fun _ _ h_ => h_)); clear Oa_22; have BC_23 := Aside0.mk (blk_kept BC_22.out K22 (fun h_ => h_)); clear BC_22; have Ob_23 := Aside0.mk (Kd.R_kept Ob_22.out K22 (fun _ _ h_ => h_)); clear Ob_22; have OF_23 := Aside0.mk (Kd.R_kept OF_22.out K22 (fun _ _ h_ => h_)); clear OF_22; have Od_23 := Aside0.mk (Kd.R_kept Od_22.out K22 (fun _ _ h_ => h_)); clear Od_22; have OG_23 := Aside0.mk (Kd.R_kept OG_22.out K22 (fun _ _ h_ => h_)); clear OG_22; have OS_23 := Aside0.mk (Kd.R_kept OS_22.out K22 (fun _ _ h_ => h_)); clear OS_22; have Oe_23 := Aside0.mk (Kd.R_kept Oe_22.out K22 (fun _ _ h_ => h_)); clear Oe_22; have ON_23 := Aside0.mk (Kd.R_kept ON_22.out K22 (fun _ _ h_ => h_)); clear ON_22; have Oh_23 := Aside0.mk (Kd.R_kept Oh_22.out K22 (fun _ _ h_ => h_)); clear Oh_22; have Ov_23 := Aside0.mk (Kd.R_kept Ov_22.out K22 (fun _ _ h_ => h_)); clear Ov_22; have OB_23 := Aside0.mk (Kd.R_kept OB_22.out K22 (fun _ _ h_ => h_)); clear OB_22; have Oy_23 := own_btw ho23 Sz22.out Sz23 HB22.out.size; clear ho23 b23 HB22 K22) | ((with_reducible refine gate_dst (N := 193) rfl ?_); refine goesL_ (some 193) rfl rfl Try.func40 (by kernel_rfl) rfl #[.slice Ay M1.length cy] rfl (by (try simp only [List.map_toArray, List.map_cons, List.map_nil]); first | done | rfl) ?_; refine (impl_MapCount.calls k Ay cy M1 C2 0 w23 (Kd.R_reads' Oy_23.out).2.2 (Kd.R_reads' Oy_23.out).2.1 F11.out).mono ?_; rintro e_ w24 ⟨rfl, b24⟩; refine ⟨_, rfl, ?_⟩; have K23 := kept_below b24; have HB24 := Aside0.mk (below_then HB23.out HB23.out.size b24); obtain ⟨s24, L24, Sz24⟩ := size_letter Sz23 K23; have SRC_24 := Aside0.mk (IsS68.below SRC_23.out b24); clear SRC_23; have OW_24 := Aside0.mk (Kd.R_kept OW_23.out K23 (fun _ _ h_ => h_)); clear OW_23; have Oa_24 := Aside0.mk (Kd.R_kept Oa_23.out K23 (fun _ _ h_ => h_)); clear Oa_23; have BC_24 := Aside0.mk (blk_kept BC_23.out K23 (fun h_ => h_)); clear BC_23; have Ob_24 := Aside0.mk (Kd.R_kept Ob_23.out K23 (fun _ _ h_ => h_)); clear Ob_23; have OF_24 := Aside0.mk (Kd.R_kept OF_23.out K23 (fun _ _ h_ => h_)); clear OF_23; have Od_24 := Aside0.mk (Kd.R_kept Od_23.out K23 (fun _ _ h_ => h_)); clear Od_23; have OG_24 := Aside0.mk (Kd.R_kept OG_23.out K23 (fun _ _ h_ => h_)); clear OG_23; have OS_24 := Aside0.mk (Kd.R_kept OS_23.out K23 (fun _ _ h_ => h_)); clear OS_23; have Oe_24 := Aside0.mk (Kd.R_kept Oe_23.out K23 (fun _ _ h_ => h_)); clear Oe_23; have ON_24 := Aside0.mk (Kd.R_kept ON_23.out K23 (fun _ _ h_ => h_)); clear ON_23; have Oh_24 := Aside0.mk (Kd.R_kept Oh_23.out K23 (fun _ _ h_ => h_)); clear Oh_23; have Ov_24 := Aside0.mk (Kd.R_kept Ov_23.out K23 (fun _ _ h_ => h_)); clear Ov_23; have OB_24 := Aside0.mk (Kd.R_kept OB_23.out K23 (fun _ _ h_ => h_)); clear OB_23; have Oy_24 := Aside0.mk (Kd.R_kept Oy_23.out K23 (fun _ _ h_ => h_)); clear Oy_23; clear b24 HB23 K23) | ((with_reducible refine gate_dst (N := 25) rfl ?_); refine hx_alloc rfl 25 rfl 55 rfl Sz24 (.agg (nums .i64 (List.replicate 35 0)).toArray) (nums .i64 (List.replicate 35 0)).toArray Z55 rfl ?_; intro w25 s25 L25 Sz25 b25 g25; have K24 := kept_below b25; have HB25 := Aside0.mk (below_then HB24.out HB24.out.size b25); have SRC_25 := Aside0.mk (IsS68.below SRC_24.out b25); clear SRC_24; have OW_25 := Aside0.mk (Kd.R_kept OW_24.out K24 (fun _ _ h_ => h_)); clear OW_24; have Oa_25 := Aside0.mk (Kd.R_kept Oa_24.out K24 (fun _ _ h_ => h_)); clear Oa_24; have BC_25 := Aside0.mk (blk_kept BC_24.out K24 (fun h_ => h_)); clear BC_24; have Ob_25 := Aside0.mk (Kd.R_kept Ob_24.out K24 (fun _ _ h_ => h_)); clear Ob_24; have OF_25 := Aside0.mk (Kd.R_kept OF_24.out K24 (fun _ _ h_ => h_)); clear OF_24; have Od_25 := Aside0.mk (Kd.R_kept Od_24.out K24 (fun _ _ h_ => h_)); clear Od_24; have OG_25 := Aside0.mk (Kd.R_kept OG_24.out K24 (fun _ _ h_ => h_)); clear OG_24; have OS_25 := Aside0.mk (Kd.R_kept OS_24.out K24 (fun _ _ h_ => h_)); clear OS_24; have Oe_25 := Aside0.mk (Kd.R_kept Oe_24.out K24 (fun _ _ h_ => h_)); clear Oe_24; have ON_25 := Aside0.mk (Kd.R_kept ON_24.out K24 (fun _ _ h_ => h_)); clear ON_24; have Oh_25 := Aside0.mk (Kd.R_kept Oh_24.out K24 (fun _ _ h_ => h_)); clear Oh_24; have Ov_25 := Aside0.mk (Kd.R_kept Ov_24.out K24 (fun _ _ h_ => h_)); clear Ov_24; have OB_25 := Aside0.mk (Kd.R_kept OB_24.out K24 (fun _ _ h_ => h_)); clear OB_24; have Oy_25 := Aside0.mk (Kd.R_kept Oy_24.out K24 (fun _ _ h_ => h_)); clear Oy_24; have BD_25 := Aside0.mk g25; clear b25 g25 HB24 K24) | ((with_reducible refine gate_store (t := 55) (p := 25) (v := .tmp 194) rfl ?_); refine hx_store rfl rfl 55 (.tmp 25) (.tmp 194) rfl s24 35 rfl (nums .i64 C2).toArray rfl (by kernel_rfl) (nums_size _ _ _ HC2.out) (nums_one _ _) BD_25.out (by simp [nums]) ?_; intro w26 t26 g26; have K25 := kept_touch t26; have HB26 := Aside0.mk (t26.below HB25.out (by have := Sz0.out; omega)); obtain ⟨s26, L26, Sz26⟩ := size_letter Sz25 K25; have SRC_26 := Aside0.mk (IsS68.kept SRC_25.out K25 (fun (h_ : g = s24) => by have := hgs.out; omega)); clear SRC_25; have OW_26 := Aside0.mk (Kd.R_kept OW_25.out K25 (fun k_ hk_ (he_ : k_ = s24) => by have h1_ := hk_.1; have h2_ := hk_.2; omega)); clear OW_25; have Oa_26 := Aside0.mk (Kd.R_kept Oa_25.out K25 (fun k_ hk_ (he_ : k_ = s24) => by have h1_ := hk_.1; have h2_ := hk_.2; omega)); clear Oa_25; have BC_26 := Aside0.mk (blk_kept BC_25.out K25 (fun (h_ : _ = s24) => by omega)); clear BC_25; have Ob_26 := Aside0.mk (Kd.R_kept Ob_25.out K25 (fun k_ hk_ (he_ : k_ = s24) => by have h1_ := hk_.1; have h2_ := hk_.2; omega)); clear Ob_25; have OF_26 := Aside0.mk (Kd.R_kept OF_25.out K25 (fun k_ hk_ (he_ : k_ = s24) => by have h1_ := hk_.1; have h2_ := hk_.2; omega)); clear OF_25; have Od_26 := Aside0.mk (Kd.R_kept Od_25.out K25 (fun k_ hk_ (he_ : k_ = s24) => by have h1_ := hk_.1; have h2_ := hk_.2; omega)); clear Od_25; have OG_26 := Aside0.mk (Kd.R_kept OG_25.out K25 (fun k_ hk_ (he_ : k_ = s24) => by have h1_ := hk_.1; have h2_ := hk_.2; omega)); clear OG_25; have OS_26 := Aside0.mk (Kd.R_kept OS_25.out K25 (fun k_ hk_ (he_ : k_ = s24) => by have h1_ := hk_.1; have h2_ := hk_.2; omega)); clear OS_25; have Oe_26 := Aside0.mk (Kd.R_kept Oe_25.out K25 (fun k_ hk_ (he_ : k_ = s24) => by have h1_ := hk_.1; have h2_ := hk_.2; omega)); clear Oe_25; have ON_26 := Aside0.mk (Kd.R_kept ON_25.out K25 (fun k_ hk_ (he_ : k_ = s24) => by have h1_ := hk_.1; have h2_ := hk_.2; omega)); clear ON_25; have Oh_26 := Aside0.mk (Kd.R_kept Oh_25.out K25 (fun k_ hk_ (he_ : k_ = s24) => by have h1_ := hk_.1; have h2_ := hk_.2; omega)); clear Oh_25; have Ov_26 := Aside0.mk (Kd.R_kept Ov_25.out K25 (fun k_ hk_ (he_ : k_ = s24) => by have h1_ := hk_.1; have h2_ := hk_.2; omega)); clear Ov_25; have OB_26 := Aside0.mk (Kd.R_kept OB_25.out K25 (fun k_ hk_ (he_ : k_ = s24) => by have h1_ := hk_.1; have h2_ := hk_.2; omega)); clear OB_25; have Oy_26 := Aside0.mk (Kd.R_kept Oy_25.out K25 (fun k_ hk_ (he_ : k_ = s24) => by have h1_ := hk_.1; have h2_ := hk_.2; omega)); clear Oy_25; have BD_26 := Aside0.mk g26; clear BD_25 t26 g26 HB25 K25) | ((with_reducible refine gate_dst (N := 210) rfl ?_); refine Go.Proofs.YtjhaofdnlnbajaaW.PrintTab2.ungd (by rfl) ?_; refine hx_loadf rfl 3 (.tmp 209) rfl s24 (3 + pl.toNat) rfl Try.underlying3 rfl BD_26.out (by have := HC2.out; have := HPL.out; omega) ?_; rw [HD1.out]) | ((with_reducible refine gate_dst (N := 218) rfl ?_); refine Go.Proofs.YtjhaofdnlnbajaaW.PrintTab2.ungd (by rfl) ?_; refine hx_loadf rfl 3 (.tmp 217) rfl s6 (3 + pl.toNat) rfl Try.underlying3 rfl BC_26.out (by have := HCL.out; have := HPL.out; omega) ?_; rw [HD2.out]))
            go_wp2
            (try simp only [Act.put, List.setIfInBounds_toArray, List.set_cons_succ, List.set_cons_zero])
            go_loopg [233] Wl.length (fun kq v233 w27 => ∃ (j nd : Nat), v233 = .int .i64 (j : Int) ∧ Aside0 (kq + j = Wl.length) ∧ Aside0 (w27 = w26.drewN nd))
            case atStart => exact ⟨0, 0, rfl, ⟨by simp⟩, ⟨rfl⟩⟩
            case round =>
              obtain ⟨j, nd, rfl, hkj, hwr⟩ := hrel
              obtain ⟨w27, rfl⟩ : ∃ x, x = wr := ⟨_, rfl⟩
              have hCF : Kd.C (Kd.int .i64) w27 AB Wl.length Wl := by rw [hwr.out]; exact Kd.C_drewN (Kd.R_reads' OB_26.out).2.2 nd
              have hCW : Kd.C (Kd.int .i64) w27 AW Wl.length Wl := by rw [hwr.out]; exact Kd.C_drewN (Kd.R_reads' OW_26.out).2.2 nd
              have CFR := Aside0.mk hCF
              have CWR := Aside0.mk hCW
              clear hCF hCW
              by_cases cj : j < Wl.length
              case pos =>
                have cj0 : decide ((j : Int) < (Wl.length : Int)) = true := decide_eq_true (by omega)
                have cj1 : decide (j < Wl.length) = true := decide_eq_true cj
                have cj2 : ((j : Int) < (Wl.length : Int)) = True := eq_true (by omega)
                have cj3 : (0 ≤ (j : Int)) = True := eq_true (by omega)
                have CJ := Aside0.mk cj
                obtain ⟨b, hb⟩ : ∃ b, b = rd Wl (j : Int) := ⟨_, rfl⟩
                obtain ⟨adF, eF, hxF⟩ := Kd.at_int CFR.out (j : Int) (by omega) (by omega)
                subst eF
                rw [Int.toNat_natCast, ← hb] at hxF
                obtain ⟨adW, eW, hxW⟩ := Kd.at_int CWR.out (j : Int) (by omega) (by omega)
                subst eW
                rw [Int.toNat_natCast, ← hb] at hxW
                have y2 : (b != b) = false := bne_self_eq_false _
                clear cj hb
                go_upto_region 36 with (fail)
                go_quiet (fail)
                go_wp2
                cases gk with
                | zero => exact absurd CJ.out (by have := hkj.out; omega)
                | succ gk =>
                  go_roundg gk
                  case measure => omega
                  case rel => exact ⟨j + 1, nd + nq, by rw [show wrap64 ((j : Int) + 1) = ((j + 1 : Nat) : Int) by (have := CJ.out; have := HLEN.out; unfold wrap64; omega)], ⟨by have := hkj.out; omega⟩, ⟨by rw [hwr.out, World.drewN_drewN]⟩⟩
              case neg =>
                have cj0 : decide ((j : Int) < (Wl.length : Int)) = false := decide_eq_false (by omega)
                have cj1 : decide (j < Wl.length) = false := decide_eq_false cj
                clear cj CFR CWR
                have b27 : Below w26.heap.size w26 w27 := by rw [hwr.out]; exact pw_below_drewN (Below.refl _ _) nd
                clear hwr hkj
                have K26 := kept_below b27
                have HB27 := Aside0.mk (below_then HB26.out HB26.out.size b27)
                obtain ⟨s27, L27, Sz27⟩ := size_letter Sz26 K26
                have SRC_27 := Aside0.mk (IsS68.below SRC_26.out b27)
                clear SRC_26
                have OW_27 := Aside0.mk (Kd.R_kept OW_26.out K26 (fun _ _ h_ => h_))
                clear OW_26
                have Oa_27 := Aside0.mk (Kd.R_kept Oa_26.out K26 (fun _ _ h_ => h_))
                clear Oa_26
                have BC_27 := Aside0.mk (blk_kept BC_26.out K26 (fun h_ => h_))
                clear BC_26
                have Ob_27 := Aside0.mk (Kd.R_kept Ob_26.out K26 (fun _ _ h_ => h_))
                clear Ob_26
                have OF_27 := Aside0.mk (Kd.R_kept OF_26.out K26 (fun _ _ h_ => h_))
                clear OF_26
                have Od_27 := Aside0.mk (Kd.R_kept Od_26.out K26 (fun _ _ h_ => h_))
                clear Od_26
                have OG_27 := Aside0.mk (Kd.R_kept OG_26.out K26 (fun _ _ h_ => h_))
                clear OG_26
                have OS_27 := Aside0.mk (Kd.R_kept OS_26.out K26 (fun _ _ h_ => h_))
                clear OS_26
                have Oe_27 := Aside0.mk (Kd.R_kept Oe_26.out K26 (fun _ _ h_ => h_))
                clear Oe_26
                have ON_27 := Aside0.mk (Kd.R_kept ON_26.out K26 (fun _ _ h_ => h_))
                clear ON_26
                have Oh_27 := Aside0.mk (Kd.R_kept Oh_26.out K26 (fun _ _ h_ => h_))
                clear Oh_26
                have Ov_27 := Aside0.mk (Kd.R_kept Ov_26.out K26 (fun _ _ h_ => h_))
                clear Ov_26
                have OB_27 := Aside0.mk (Kd.R_kept OB_26.out K26 (fun _ _ h_ => h_))
                clear OB_26
                have Oy_27 := Aside0.mk (Kd.R_kept Oy_26.out K26 (fun _ _ h_ => h_))
                clear Oy_26
                have BD_27 := Aside0.mk (blk_kept BD_26.out K26 (fun h_ => h_))
                clear BD_26
                clear b27 HB26 K26
                go_wp2
                go_ret
                exact ⟨rfl, HB27.out⟩
          case inr =>
            have z0 : (pl == 0) = false := beq_eq_false_iff_ne.mpr cz
            clear cz
            have y0 : (wrap64 ((St.length : Int) + 0) != wrap64 ((St.length : Int) + 0)) = false := bne_self_eq_false _
            have y1 : ((Wl.length : Int) != (Wl.length : Int)) = false := bne_self_eq_false _
            have hp0 : (0 ≤ pl) = True := eq_true HPL.out.1
            have hp1 : (pl < 32) = True := eq_true HPL.out.2
            go_upto_region 33 with (first | ((with_reducible refine gate_dst (N := 190) rfl ?_); refine Kd.R_lit (Kd.int .i64) (w0 := w22) w22.heap.size 3 ?hg (N := 190) ?hd (xs := ([] : List Int)) (inner := []) (ok := fun _ => True) (okp := fun _ => True) ?hr ?hp (fun _ hk => hk) trivial (Below.refl _ _) (Nat.le_refl _) (by simp) ?_; (case hd => rfl); (case hg => rfl); (case hr => first | (go_simp; done) | (go_simp; rfl)); (case hp => exact (Reps.none _ _)); intro vm23 wm23 om23 bm23 hg_ hnew_; clear hg_ hnew_; (try simp only [Int.reduceToNat] at om23); have OM23 := Aside0.mk om23; have BM23 := Aside0.mk bm23; clear om23 bm23) | ((with_reducible refine gate_dst (N := 192) rfl ?_); refine Kd.R_append_rows (Kd.int .i64) (w0 := w22) w22.heap.size rfl (.tmp 190) (.tmp 191) 32 3 (.int .i64 0) 8 rfl Try.underlying32 info3 rfl (by decide) (by omega) vm23 ([] : List Int) M1 _ _ _ (fun _ => True) (fun _ => False) rfl rfl ?aO ?aR (fun _ _ h => h) (fun _ h => h.elim) ?aF ?aB ?aS ?aL ?_; (case aO => exact OM23.out); (case aR => exact Kd.C_below (Kd.R_reads' ON_22.out).2.2 BM23.out); (case aF => exact (fun _ _ => trivial)); (case aB => exact BM23.out); (case aS => exact BM23.out.size); (case aL => have := HLEN.out; have := HM1.out; have := HSL.out; simp only [List.length_nil]; omega); intro va23 w23 ho23 b23 hg hat; clear hg hat; rw [List.nil_append] at ho23; obtain ⟨Ay, cy, rfl⟩ := Kd.R_slice ho23; have K22 := kept_below b23; have HB23 := Aside0.mk (below_then HB22.out HB22.out.size b23); obtain ⟨s23, L23, Sz23⟩ := size_letter Sz22 K22; have SRC_23 := Aside0.mk (IsS68.below SRC_22.out b23); clear SRC_22; have OW_23 := Aside0.mk (Kd.R_kept OW_22.out K22 (fun _ _ h_ => h_)); clear OW_22; have Oa_23 := Aside0.mk (Kd.R_kept Oa_22.out K22 (fun _ _ h_ => h_)); clear Oa_22; have BC_23 := Aside0.mk (blk_kept BC_22.out K22 (fun h_ => h_)); clear BC_22; have Ob_23 := Aside0.mk (Kd.R_kept Ob_22.out K22 (fun _ _ h_ => h_)); clear Ob_22; have OF_23 := Aside0.mk (Kd.R_kept OF_22.out K22 (fun _ _ h_ => h_)); clear OF_22; have Od_23 := Aside0.mk (Kd.R_kept Od_22.out K22 (fun _ _ h_ => h_)); clear Od_22; have OG_23 := Aside0.mk (Kd.R_kept OG_22.out K22 (fun _ _ h_ => h_)); clear OG_22; have OS_23 := Aside0.mk (Kd.R_kept OS_22.out K22 (fun _ _ h_ => h_)); clear OS_22; have Oe_23 := Aside0.mk (Kd.R_kept Oe_22.out K22 (fun _ _ h_ => h_)); clear Oe_22; have ON_23 := Aside0.mk (Kd.R_kept ON_22.out K22 (fun _ _ h_ => h_)); clear ON_22; have Oh_23 := Aside0.mk (Kd.R_kept Oh_22.out K22 (fun _ _ h_ => h_)); clear Oh_22; have Ov_23 := Aside0.mk (Kd.R_kept Ov_22.out K22 (fun _ _ h_ => h_)); clear Ov_22; have OB_23 := Aside0.mk (Kd.R_kept OB_22.out K22 (fun _ _ h_ => h_)); clear OB_22; have Oy_23 := own_btw ho23 Sz22.out Sz23 HB22.out.size; clear ho23 b23 HB22 K22) | ((with_reducible refine gate_dst (N := 193) rfl ?_); refine goesL_ (some 193) rfl rfl Try.func40 (by kernel_rfl) rfl #[.slice Ay M1.length cy] rfl (by (try simp only [List.map_toArray, List.map_cons, List.map_nil]); first | done | rfl) ?_; refine (impl_MapCount.calls k Ay cy M1 C2 0 w23 (Kd.R_reads' Oy_23.out).2.2 (Kd.R_reads' Oy_23.out).2.1 F11.out).mono ?_; rintro e_ w24 ⟨rfl, b24⟩; refine ⟨_, rfl, ?_⟩; have K23 := kept_below b24; have HB24 := Aside0.mk (below_then HB23.out HB23.out.size b24); obtain ⟨s24, L24, Sz24⟩ := size_letter Sz23 K23; have SRC_24 := Aside0.mk (IsS68.below SRC_23.out b24); clear SRC_23; have OW_24 := Aside0.mk (Kd.R_kept OW_23.out K23 (fun _ _ h_ => h_)); clear OW_23; have Oa_24 := Aside0.mk (Kd.R_kept Oa_23.out K23 (fun _ _ h_ => h_)); clear Oa_23; have BC_24 := Aside0.mk (blk_kept BC_23.out K23 (fun h_ => h_)); clear BC_23; have Ob_24 := Aside0.mk (Kd.R_kept Ob_23.out K23 (fun _ _ h_ => h_)); clear Ob_23; have OF_24 := Aside0.mk (Kd.R_kept OF_23.out K23 (fun _ _ h_ => h_)); clear OF_23; have Od_24 := Aside0.mk (Kd.R_kept Od_23.out K23 (fun _ _ h_ => h_)); clear Od_23; have OG_24 := Aside0.mk (Kd.R_kept OG_23.out K23 (fun _ _ h_ => h_)); clear OG_23; have OS_24 := Aside0.mk (Kd.R_kept OS_23.out K23 (fun _ _ h_ => h_)); clear OS_23; have Oe_24 := Aside0.mk (Kd.R_kept Oe_23.out K23 (fun _ _ h_ => h_)); clear Oe_23; have ON_24 := Aside0.mk (Kd.R_kept ON_23.out K23 (fun _ _ h_ => h_)); clear ON_23; have Oh_24 := Aside0.mk (Kd.R_kept Oh_23.out K23 (fun _ _ h_ => h_)); clear Oh_23; have Ov_24 := Aside0.mk (Kd.R_kept Ov_23.out K23 (fun _ _ h_ => h_)); clear Ov_23; have OB_24 := Aside0.mk (Kd.R_kept OB_23.out K23 (fun _ _ h_ => h_)); clear OB_23; have Oy_24 := Aside0.mk (Kd.R_kept Oy_23.out K23 (fun _ _ h_ => h_)); clear Oy_23; clear b24 HB23 K23) | ((with_reducible refine gate_dst (N := 25) rfl ?_); refine hx_alloc rfl 25 rfl 55 rfl Sz24 (.agg (nums .i64 (List.replicate 35 0)).toArray) (nums .i64 (List.replicate 35 0)).toArray Z55 rfl ?_; intro w25 s25 L25 Sz25 b25 g25; have K24 := kept_below b25; have HB25 := Aside0.mk (below_then HB24.out HB24.out.size b25); have SRC_25 := Aside0.mk (IsS68.below SRC_24.out b25); clear SRC_24; have OW_25 := Aside0.mk (Kd.R_kept OW_24.out K24 (fun _ _ h_ => h_)); clear OW_24; have Oa_25 := Aside0.mk (Kd.R_kept Oa_24.out K24 (fun _ _ h_ => h_)); clear Oa_24; have BC_25 := Aside0.mk (blk_kept BC_24.out K24 (fun h_ => h_)); clear BC_24; have Ob_25 := Aside0.mk (Kd.R_kept Ob_24.out K24 (fun _ _ h_ => h_)); clear Ob_24; have OF_25 := Aside0.mk (Kd.R_kept OF_24.out K24 (fun _ _ h_ => h_)); clear OF_24; have Od_25 := Aside0.mk (Kd.R_kept Od_24.out K24 (fun _ _ h_ => h_)); clear Od_24; have OG_25 := Aside0.mk (Kd.R_kept OG_24.out K24 (fun _ _ h_ => h_)); clear OG_24; have OS_25 := Aside0.mk (Kd.R_kept OS_24.out K24 (fun _ _ h_ => h_)); clear OS_24; have Oe_25 := Aside0.mk (Kd.R_kept Oe_24.out K24 (fun _ _ h_ => h_)); clear Oe_24; have ON_25 := Aside0.mk (Kd.R_kept ON_24.out K24 (fun _ _ h_ => h_)); clear ON_24; have Oh_25 := Aside0.mk (Kd.R_kept Oh_24.out K24 (fun _ _ h_ => h_)); clear Oh_24; have Ov_25 := Aside0.mk (Kd.R_kept Ov_24.out K24 (fun _ _ h_ => h_)); clear Ov_24; have OB_25 := Aside0.mk (Kd.R_kept OB_24.out K24 (fun _ _ h_ => h_)); clear OB_24; have Oy_25 := Aside0.mk (Kd.R_kept Oy_24.out K24 (fun _ _ h_ => h_)); clear Oy_24; have BD_25 := Aside0.mk g25; clear b25 g25 HB24 K24) | ((with_reducible refine gate_store (t := 55) (p := 25) (v := .tmp 194) rfl ?_); refine hx_store rfl rfl 55 (.tmp 25) (.tmp 194) rfl s24 35 rfl (nums .i64 C2).toArray rfl (by kernel_rfl) (nums_size _ _ _ HC2.out) (nums_one _ _) BD_25.out (by simp [nums]) ?_; intro w26 t26 g26; have K25 := kept_touch t26; have HB26 := Aside0.mk (t26.below HB25.out (by have := Sz0.out; omega)); obtain ⟨s26, L26, Sz26⟩ := size_letter Sz25 K25; have SRC_26 := Aside0.mk (IsS68.kept SRC_25.out K25 (fun (h_ : g = s24) => by have := hgs.out; omega)); clear SRC_25; have OW_26 := Aside0.mk (Kd.R_kept OW_25.out K25 (fun k_ hk_ (he_ : k_ = s24) => by have h1_ := hk_.1; have h2_ := hk_.2; omega)); clear OW_25; have Oa_26 := Aside0.mk (Kd.R_kept Oa_25.out K25 (fun k_ hk_ (he_ : k_ = s24) => by have h1_ := hk_.1; have h2_ := hk_.2; omega)); clear Oa_25; have BC_26 := Aside0.mk (blk_kept BC_25.out K25 (fun (h_ : _ = s24) => by omega)); clear BC_25; have Ob_26 := Aside0.mk (Kd.R_kept Ob_25.out K25 (fun k_ hk_ (he_ : k_ = s24) => by have h1_ := hk_.1; have h2_ := hk_.2; omega)); clear Ob_25; have OF_26 := Aside0.mk (Kd.R_kept OF_25.out K25 (fun k_ hk_ (he_ : k_ = s24) => by have h1_ := hk_.1; have h2_ := hk_.2; omega)); clear OF_25; have Od_26 := Aside0.mk (Kd.R_kept Od_25.out K25 (fun k_ hk_ (he_ : k_ = s24) => by have h1_ := hk_.1; have h2_ := hk_.2; omega)); clear Od_25; have OG_26 := Aside0.mk (Kd.R_kept OG_25.out K25 (fun k_ hk_ (he_ : k_ = s24) => by have h1_ := hk_.1; have h2_ := hk_.2; omega)); clear OG_25; have OS_26 := Aside0.mk (Kd.R_kept OS_25.out K25 (fun k_ hk_ (he_ : k_ = s24) => by have h1_ := hk_.1; have h2_ := hk_.2; omega)); clear OS_25; have Oe_26 := Aside0.mk (Kd.R_kept Oe_25.out K25 (fun k_ hk_ (he_ : k_ = s24) => by have h1_ := hk_.1; have h2_ := hk_.2; omega)); clear Oe_25; have ON_26 := Aside0.mk (Kd.R_kept ON_25.out K25 (fun k_ hk_ (he_ : k_ = s24) => by have h1_ := hk_.1; have h2_ := hk_.2; omega)); clear ON_25; have Oh_26 := Aside0.mk (Kd.R_kept Oh_25.out K25 (fun k_ hk_ (he_ : k_ = s24) => by have h1_ := hk_.1; have h2_ := hk_.2; omega)); clear Oh_25; have Ov_26 := Aside0.mk (Kd.R_kept Ov_25.out K25 (fun k_ hk_ (he_ : k_ = s24) => by have h1_ := hk_.1; have h2_ := hk_.2; omega)); clear Ov_25; have OB_26 := Aside0.mk (Kd.R_kept OB_25.out K25 (fun k_ hk_ (he_ : k_ = s24) => by have h1_ := hk_.1; have h2_ := hk_.2; omega)); clear OB_25; have Oy_26 := Aside0.mk (Kd.R_kept Oy_25.out K25 (fun k_ hk_ (he_ : k_ = s24) => by have h1_ := hk_.1; have h2_ := hk_.2; omega)); clear Oy_25; have BD_26 := Aside0.mk g26; clear BD_25 t26 g26 HB25 K25) | ((with_reducible refine gate_dst (N := 210) rfl ?_); refine Go.Proofs.YtjhaofdnlnbajaaW.PrintTab2.ungd (by rfl) ?_; refine hx_loadf rfl 3 (.tmp 209) rfl s24 (3 + pl.toNat) rfl Try.underlying3 rfl BD_26.out (by have := HC2.out; have := HPL.out; omega) ?_; rw [HD1.out]) | ((with_reducible refine gate_dst (N := 218) rfl ?_); refine Go.Proofs.YtjhaofdnlnbajaaW.PrintTab2.ungd (by rfl) ?_; refine hx_loadf rfl 3 (.tmp 217) rfl s6 (3 + pl.toNat) rfl Try.underlying3 rfl BC_26.out (by have := HCL.out; have := HPL.out; omega) ?_; rw [HD2.out]))
            go_wp2
            (try simp only [Act.put, List.setIfInBounds_toArray, List.set_cons_succ, List.set_cons_zero])
            go_loopg [233] Wl.length (fun kq v233 w27 => ∃ (j nd : Nat), v233 = .int .i64 (j : Int) ∧ Aside0 (kq + j = Wl.length) ∧ Aside0 (w27 = w26.drewN nd))
            case atStart => exact ⟨0, 0, rfl, ⟨by simp⟩, ⟨rfl⟩⟩
            case round =>
              obtain ⟨j, nd, rfl, hkj, hwr⟩ := hrel
              obtain ⟨w27, rfl⟩ : ∃ x, x = wr := ⟨_, rfl⟩
              have hCF : Kd.C (Kd.int .i64) w27 AB Wl.length Wl := by rw [hwr.out]; exact Kd.C_drewN (Kd.R_reads' OB_26.out).2.2 nd
              have hCW : Kd.C (Kd.int .i64) w27 AW Wl.length Wl := by rw [hwr.out]; exact Kd.C_drewN (Kd.R_reads' OW_26.out).2.2 nd
              have CFR := Aside0.mk hCF
              have CWR := Aside0.mk hCW
              clear hCF hCW
              by_cases cj : j < Wl.length
              case pos =>
                have cj0 : decide ((j : Int) < (Wl.length : Int)) = true := decide_eq_true (by omega)
                have cj1 : decide (j < Wl.length) = true := decide_eq_true cj
                have cj2 : ((j : Int) < (Wl.length : Int)) = True := eq_true (by omega)
                have cj3 : (0 ≤ (j : Int)) = True := eq_true (by omega)
                have CJ := Aside0.mk cj
                obtain ⟨b, hb⟩ : ∃ b, b = rd Wl (j : Int) := ⟨_, rfl⟩
                obtain ⟨adF, eF, hxF⟩ := Kd.at_int CFR.out (j : Int) (by omega) (by omega)
                subst eF
                rw [Int.toNat_natCast, ← hb] at hxF
                obtain ⟨adW, eW, hxW⟩ := Kd.at_int CWR.out (j : Int) (by omega) (by omega)
                subst eW
                rw [Int.toNat_natCast, ← hb] at hxW
                have y2 : (b != b) = false := bne_self_eq_false _
                clear cj hb
                go_upto_region 36 with (fail)
                go_quiet (fail)
                go_wp2
                cases gk with
                | zero => exact absurd CJ.out (by have := hkj.out; omega)
                | succ gk =>
                  go_roundg gk
                  case measure => omega
                  case rel => exact ⟨j + 1, nd + nq, by rw [show wrap64 ((j : Int) + 1) = ((j + 1 : Nat) : Int) by (have := CJ.out; have := HLEN.out; unfold wrap64; omega)], ⟨by have := hkj.out; omega⟩, ⟨by rw [hwr.out, World.drewN_drewN]⟩⟩
              case neg =>
                have cj0 : decide ((j : Int) < (Wl.length : Int)) = false := decide_eq_false (by omega)
                have cj1 : decide (j < Wl.length) = false := decide_eq_false cj
                clear cj CFR CWR
                have b27 : Below w26.heap.size w26 w27 := by rw [hwr.out]; exact pw_below_drewN (Below.refl _ _) nd
                clear hwr hkj
                have K26 := kept_below b27
                have HB27 := Aside0.mk (below_then HB26.out HB26.out.size b27)
                obtain ⟨s27, L27, Sz27⟩ := size_letter Sz26 K26
                have SRC_27 := Aside0.mk (IsS68.below SRC_26.out b27)
                clear SRC_26
                have OW_27 := Aside0.mk (Kd.R_kept OW_26.out K26 (fun _ _ h_ => h_))
                clear OW_26
                have Oa_27 := Aside0.mk (Kd.R_kept Oa_26.out K26 (fun _ _ h_ => h_))
                clear Oa_26
                have BC_27 := Aside0.mk (blk_kept BC_26.out K26 (fun h_ => h_))
                clear BC_26
                have Ob_27 := Aside0.mk (Kd.R_kept Ob_26.out K26 (fun _ _ h_ => h_))
                clear Ob_26
                have OF_27 := Aside0.mk (Kd.R_kept OF_26.out K26 (fun _ _ h_ => h_))
                clear OF_26
                have Od_27 := Aside0.mk (Kd.R_kept Od_26.out K26 (fun _ _ h_ => h_))
                clear Od_26
                have OG_27 := Aside0.mk (Kd.R_kept OG_26.out K26 (fun _ _ h_ => h_))
                clear OG_26
                have OS_27 := Aside0.mk (Kd.R_kept OS_26.out K26 (fun _ _ h_ => h_))
                clear OS_26
                have Oe_27 := Aside0.mk (Kd.R_kept Oe_26.out K26 (fun _ _ h_ => h_))
                clear Oe_26
                have ON_27 := Aside0.mk (Kd.R_kept ON_26.out K26 (fun _ _ h_ => h_))
                clear ON_26
                have Oh_27 := Aside0.mk (Kd.R_kept Oh_26.out K26 (fun _ _ h_ => h_))
                clear Oh_26
                have Ov_27 := Aside0.mk (Kd.R_kept Ov_26.out K26 (fun _ _ h_ => h_))
                clear Ov_26
                have OB_27 := Aside0.mk (Kd.R_kept OB_26.out K26 (fun _ _ h_ => h_))
                clear OB_26
                have Oy_27 := Aside0.mk (Kd.R_kept Oy_26.out K26 (fun _ _ h_ => h_))
                clear Oy_26
                have BD_27 := Aside0.mk (blk_kept BD_26.out K26 (fun h_ => h_))
                clear BD_26
                clear b27 HB26 K26
                go_wp2
                go_ret
                exact ⟨rfl, HB27.out⟩
end Go.Proofs.Ytjhaofdnlnbajaa.PFnFree
