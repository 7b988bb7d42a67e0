-- Written by a program of this session (patch_print.py over the kit print)
import Derived.Test.YtkghgjehjchajaaPFnExactDecodeTablex0
import Derived.Test.YtkghgjehjchajaaPFnExactDecodeTablex1
import Derived.Test.YtkghgjehjchajaaPFnExactDecodeTablex8
import Derived.Test.YtkghgjehjchajaaPFnExactDecodeTablex11
namespace Go.Proofs.Ytkghgjehjchajaa.PFnExactDecodeTable
open Go.RowKit Go.Proofs.YtkghgjehjchajaaW.PrintWords Go.Proofs.YtkghgjehjchajaaW.PrintLast Go.Proofs.YtkghgjehjchajaaW.PrintMore
attribute [local go_sem] max2_int min2_int max_two min_two max_three min_three max_four min_four   -- for this text's walks alone
set_option linter.unusedVariables false
set_option linter.unusedSimpArgs false

open Go.Proofs.YtkghgjehjchajaaW Go.Proofs.YtkghgjehjchajaaW.PrintHand Go.Proofs.YtkghgjehjchajaaW.PrintHx
/-! ### impl_DecodeTable: function 34 -/
open Go.Proofs.YtkghgjehjchajaaW.PrintLe Go.Proofs.YtkghgjehjchajaaW.PrintIno Go.Proofs.YtkghgjehjchajaaW.PrintDec Go.Proofs.YtkghgjehjchajaaW.PrintTabl Go.Proofs.YtkghgjehjchajaaW.PrintTab2 Go.Proofs.YtkghgjehjchajaaW.PrintTab3 Go.Proofs.YtkghgjehjchajaaW.PrintRaw
theorem hx_subn {P : Program} {ops : Array Oper} {rest : List Oper} {o : Oper} {a : Act} {w : World} {Q : Exit → Act → World → Prop} (hgd : o.guard = none) (t : TypeId) (x y : Operand) (ho : o.op = .binOp .sub t x y t) (p q : Nat) (hx : a.eval x = .int .i64 ((p : Nat) : Int)) (hy : a.eval y = .int .i64 ((q : Nat) : Int)) (hk : p < 9223372036854775807) (hq : q ≤ p)
    (h : ∀ r : Nat, Aside0 (r + q = p) → wpList P ops Q rest (a.put o.dst (.int .i64 ((r : Nat) : Int))) w) : wpList P ops Q (o :: rest) a w := by
  refine wpList_plain hgd fun K hK => ?_
  have e : IntKind.i64.wrap ((p : Int) - (q : Int)) = ((p - q : Nat) : Int) := by
    simp [IntKind.wrap, IntKind.bits, IntKind.signed]
    omega
  have hr : (binOp .sub t (.int .i64 (p : Int)) (.int .i64 (q : Int))).run P w = .ok (.int .i64 ((p - q : Nat) : Int)) w := by
    rw [← e]
    simp [binOp, Op.intArith]
  have hg : (eqGuard .sub t x y (.int .i64 (p : Int)) (.int .i64 (q : Int))).run P w = .ok () w := by simp [eqGuard]
  unfold Oper.wp execOp
  simp only [ho, hx, hy, Sem.run_bind, hg, hr, Result.andThen_ok, Sem.run_pure, Oper.upon_value]
  exact hK _ _ (h _ ⟨Nat.sub_add_cancel hq⟩)

theorem impl_DecodeTable.size (n : Nat) : impl_tableSize.f (n : Int) = some (sizeOk n) := by
  unfold impl_tableSize.f
  rw [Int.tmod_eq_emod_of_nonneg (by omega)]
  unfold sizeOk
  by_cases h1 : 256 ≤ n
  · rw [if_pos (by omega), decide_eq_true h1]
    by_cases h2 : n % 128 = 0
    · rw [if_pos (by omega), decide_eq_true h2, Bool.true_and, Bool.true_and, decide_eq_decide.2 (show (n : Int) ≤ 128128 ↔ n ≤ 128128 by omega)]
    · rw [if_neg (by omega), decide_eq_false h2]
      rfl
  · rw [if_neg (by omega), decide_eq_false h1]
    rfl
theorem impl_DecodeTable.lit1 : ∀ z : List Int, z.length = 24 → ∀ w : World, (Instr.buildSlice 51 1 #[(0, .agg (nums .i64 z).toArray)]).run Try.prog w = .ok (.slice (some ⟨w.heap.size, 0, none⟩) 1 1) (w.alloc (.cells (nums .i64 z).toArray 42)) := by
  intro z h w_
  obtain ⟨x0, b0, rfl, h0⟩ := cons_of_len h
  obtain ⟨x1, b1, rfl, h1⟩ := cons_of_len h0
  obtain ⟨x2, b2, rfl, h2⟩ := cons_of_len h1
  obtain ⟨x3, b3, rfl, h3⟩ := cons_of_len h2
  obtain ⟨x4, b4, rfl, h4⟩ := cons_of_len h3
  obtain ⟨x5, b5, rfl, h5⟩ := cons_of_len h4
  obtain ⟨x6, b6, rfl, h6⟩ := cons_of_len h5
  obtain ⟨x7, b7, rfl, h7⟩ := cons_of_len h6
  obtain ⟨x8, b8, rfl, h8⟩ := cons_of_len h7
  obtain ⟨x9, b9, rfl, h9⟩ := cons_of_len h8
  obtain ⟨x10, b10, rfl, h10⟩ := cons_of_len h9
  obtain ⟨x11, b11, rfl, h11⟩ := cons_of_len h10
  obtain ⟨x12, b12, rfl, h12⟩ := cons_of_len h11
  obtain ⟨x13, b13, rfl, h13⟩ := cons_of_len h12
  obtain ⟨x14, b14, rfl, h14⟩ := cons_of_len h13
  obtain ⟨x15, b15, rfl, h15⟩ := cons_of_len h14
  obtain ⟨x16, b16, rfl, h16⟩ := cons_of_len h15
  obtain ⟨x17, b17, rfl, h17⟩ := cons_of_len h16
  obtain ⟨x18, b18, rfl, h18⟩ := cons_of_len h17
  obtain ⟨x19, b19, rfl, h19⟩ := cons_of_len h18
  obtain ⟨x20, b20, rfl, h20⟩ := cons_of_len h19
  obtain ⟨x21, b21, rfl, h21⟩ := cons_of_len h20
  obtain ⟨x22, b22, rfl, h22⟩ := cons_of_len h21
  obtain ⟨x23, b23, rfl, h23⟩ := cons_of_len h22
  obtain rfl := List.length_eq_zero_iff.mp h23
  kernel_rfl
def impl_DecodeTable.f (l0 : List Int) : Option (List (List Int) × Int) := if (∀ x ∈ l0, 0 ≤ x ∧ x ≤ 255) then some (decTable l0) else none
theorem impl_DecodeTable.bad {l0 : List Int} (h : sizeOk l0.length = false ∨ chunksOk l0 (l0.length / 128) = false ∨ tabEnd (rowsTo l0 (l0.length / 128)) = false) : decTable l0 = ([], 21) := by
  unfold decTable
  rcases h with h | h | h <;> rw [h] <;> simp
set_option maxHeartbeats 8000000 in
set_option maxRecDepth 100000 in
theorem impl_DecodeTable.calls (A0 : Option Addr) (c0 : Nat) (l0 : List Int) (r1 : List (List Int)) (r2 : Int) (w : World) (hr0 : Kd.C (Kd.int .u8) w A0 l0.length l0) (hc0 : l0.length ≤ c0) (h : impl_DecodeTable.f l0 = some (r1, r2)) :
    Calls Try.prog 34 #[.slice A0 l0.length c0] w fun e w' => ∃ v0_ : Value, e = .returned (.tuple #[v0_, .int .i64 r2]) ∧ Kd.R (PrintHx.wide 24) 42 w' w.heap.size (fun _ => True) v0_ r1 ∧ Below w.heap.size w w' := by
  unfold impl_DecodeTable.f at h
  by_cases hdom : (∀ x ∈ l0, 0 ≤ x ∧ x ≤ 255)
  case neg => rw [if_neg hdom] at h; cases h
  rw [if_pos hdom] at h
  have HH := Aside0.mk (Option.some.inj h)
  have HBY : Aside0 (Byt l0) := ⟨hdom⟩
  have HR0 := Aside0.mk hr0
  have HC0 := Aside0.mk hc0
  have HB := Aside0.mk (Below.refl w.heap.size w)
  obtain ⟨b, hb⟩ : ∃ b, b = sizeOk l0.length := ⟨_, rfl⟩
  have HS := Aside0.mk (show impl_tableSize.f (l0.length : Int) = some b by rw [hb]; exact impl_DecodeTable.size l0.length)
  have HSB := Aside0.mk hb
  clear hr0 hc0 h hdom hb
  cases b with
  | false =>
    go_enter Try.func34, Try.ntmps34
    go_wp2_with (first | ((with_reducible refine gate_dst (N := 10) rfl ?_); refine goesL_ (some 10) rfl rfl Try.func60 (by kernel_rfl) rfl #[.int .i64 (l0.length : Int)] rfl (by (try simp only [List.map_toArray, List.map_cons, List.map_nil]); first | done | rfl) ?_; refine (impl_tableSize.calls _ _ _ HS.out).mono ?_; rintro e_ wz ⟨rfl, d_⟩; refine ⟨_, rfl, ?_⟩; have HBz := Aside0.mk (below_then HB.out HB.out.size (kept_drawn d_)); clear d_ HB))
    go_ret2
    have h_ := HH.out
    rw [impl_DecodeTable.bad (.inl HSB.out.symm)] at h_
    simp only [Prod.mk.injEq] at h_
    obtain ⟨rfl, rfl⟩ := h_
    exact ⟨_, rfl, Kd.R_nil _ _ _ _ _, HBz.out⟩
  | true =>
    have hz := HSB.out.symm
    unfold sizeOk at hz
    simp only [Bool.and_eq_true, decide_eq_true_eq] at hz
    obtain ⟨n, hn⟩ : ∃ n, n = l0.length / 128 := ⟨_, rfl⟩
    have HN := Aside0.mk (show l0.length = 128 * n by omega)
    have HN1 := Aside0.mk (show 2 ≤ n ∧ n ≤ 1001 by omega)
    have HNE := Aside0.mk hn
    clear hz hn
    have hi_ : (Try.prog.info? 42).map (fun i => (i.zero, i.size, i.bytes)) = some (some (.agg (nums .i64 (List.replicate 24 0)).toArray), 24, 192) := by kernel_rfl
    have Z42 : ∀ w, (zeroValue 42).run Try.prog w = .ok (.agg (nums .i64 (List.replicate 24 0)).toArray) w := fun _ => by kernel_rfl
    go_enter Try.func34, Try.ntmps34
    go_wp2_with (first | ((with_reducible refine gate_dst (N := 10) rfl ?_); refine goesL_ (some 10) rfl rfl Try.func60 (by kernel_rfl) rfl #[.int .i64 (l0.length : Int)] rfl (by (try simp only [List.map_toArray, List.map_cons, List.map_nil]); first | done | rfl) ?_; refine (impl_tableSize.calls _ _ _ HS.out).mono ?_; rintro e_ wz ⟨rfl, d_⟩; refine ⟨_, rfl, ?_⟩; have HBz := Aside0.mk (below_then HB.out HB.out.size (kept_drawn d_)); clear d_ HB))
    (try simp only [Act.put, List.setIfInBounds_toArray, List.set_cons_succ, List.set_cons_zero])
    go_loopw [4, 5, 6, 7] (fun v4 v5 v6 v7 wr => ∃ (j k : Nat) (u4 u6 u7 : Value), u4 = v4 ∧ u6 = v6 ∧ u7 = v7 ∧ v5 = .int .i64 (k : Int) ∧ Aside0 (k = 128 * j) ∧ Aside0 (j ≤ n) ∧ Aside0 (∀ i, i < j → (decAt l0 i).2 = 0) ∧ Aside0 (Kd.R (PrintHx.wide 24) 42 wr w.heap.size (fun _ => True) v4 (rowsTo l0 j)) ∧ Aside0 (Below w.heap.size w wr)) (fun _ v5 _ _ _ => l0.length - (intOf v5).toNat)
    case atStart => exact ⟨0, 0, _, _, _, rfl, rfl, rfl, rfl, ⟨rfl⟩, ⟨Nat.zero_le _⟩, ⟨fun i hi => absurd hi (by omega)⟩, ⟨Kd.R_nil _ _ _ _ _⟩, HBz⟩
    case round =>
      clear HBz
      obtain ⟨j, k, v4, v6, v7, rfl, rfl, rfl, rfl, HK, hj, HG, OO, HB⟩ := hrel
      by_cases c9 : k < l0.length
      · have c9b0 : decide ((k : Int) < (l0.length : Int)) = true := decide_eq_true (by omega)
        have c9b1 : decide (k < l0.length) = true := decide_eq_true c9
        have HJ := Aside0.mk (show j < n by have := HK.out; have := HN.out; omega)
        obtain ⟨rs, hrs⟩ : ∃ rs, rs = rowsTo l0 j := ⟨_, rfl⟩
        rw [← hrs] at OO
        have HRS := Aside0.mk hrs
        have HRL := Aside0.mk (show rs.length = j by rw [hrs]; exact rowsTo_length l0 j)
        have C9 := Aside0.mk c9
        obtain ⟨x, hx⟩ : ∃ x, x = (decAt l0 j).1 := ⟨_, rfl⟩
        have HX := Aside0.mk hx
        have HXL := Aside0.mk (show x.length = 24 by rw [hx]; exact decAt_length l0 j)
        clear hx hrs c9
        by_cases hcd : (decAt l0 j).2 = 0
        · have HD := Aside0.mk (show ∀ c, c = chunk l0 j → impl_DecodeInode.f c = some (x, 0) by
            intro c hc
            unfold impl_DecodeInode.f
            rw [if_pos (show ∀ y ∈ c, 0 ≤ y ∧ y ≤ 255 by rw [hc]; exact seg_byt HBY.out _ _), ← decI_same (show Byt c by rw [hc]; exact seg_byt HBY.out _ _), hc, show (x, (0 : Int)) = decAt l0 j from Prod.ext HX.out hcd.symm]
            rfl)
          have HCD := Aside0.mk hcd
          clear hcd
          go_wp2_with (first | ((with_reducible refine gate_dst (N := 22) rfl ?_); refine hx_addn rfl 3 (.tmp 21) _ rfl k 128 rfl rfl (by have := HK.out; have := HJ.out; have := HN1.out; omega) ?_; intro k2 E2) | ((with_reducible refine gate_dst (N := 23) rfl ?_); refine hx_mid rfl 25 5 (.tmp 19) (.tmp 20) (.tmp 22) rfl A0 c0 l0 k k2 rfl rfl rfl Try.underlying25 (by kernel_rfl) (by have := E2.out; omega) (by have := E2.out; have := HK.out; have := HJ.out; have := HN.out; omega) HC0.out (Kd.C_below HR0.out HB.out) ?_; intro A26 c26 l26 E26 C26 K26) | ((with_reducible refine gate_dst (N := 24) rfl ?_); refine goesL_ (some 24) rfl rfl Try.func25 (by kernel_rfl) rfl #[.slice A26 l26.length c26] rfl (by (try simp only [List.map_toArray, List.map_cons, List.map_nil]); first | done | rfl) ?_; refine (impl_DecodeInode.calls A26 c26 l26 _ _ _ C26.out K26.out (HD.out l26 (by rw [E26.out, show k2 - k = 128 by (have := E2.out; omega), HK.out]; rfl))).mono ?_; rintro e_ w1 ⟨rfl, b_⟩; refine ⟨_, rfl, ?_⟩; have HB1 := Aside0.mk (below_then HB.out HB.out.size b_); obtain ⟨s1, Sz1⟩ : ∃ s, Aside0 (w1.heap.size = s) := ⟨_, ⟨rfl⟩⟩; have hs1 : w.heap.size ≤ s1 := (by rw [← Sz1.out]; exact HB1.out.size); have OO1 := Aside0.mk (Kd.R_mono (ok' := fun k => k < s1) (Kd.R_bound (Kd.R_below OO.out b_)) (fun k hk => by have h_ := hk.2.2.1; rw [Sz1.out] at h_; exact h_)); clear b_ HB OO C26 K26) | ((with_reducible refine gate_dst (N := 6) rfl ?_); refine hx_alloc rfl 6 rfl 42 rfl Sz1 (.agg (nums .i64 (List.replicate 24 0)).toArray) (nums .i64 (List.replicate 24 0)).toArray Z42 rfl ?_; intro w2 s2 L2 Sz2 b_ g_; have HA := Aside0.mk g_; have HB2 := Aside0.mk (below_then HB1.out HB1.out.size b_); have OO2 := Aside0.mk (Kd.R_below OO1.out b_); clear b_ g_ HB1 OO1) | ((with_reducible refine gate_store (t := 42) (p := 6) (v := .tmp 25) rfl ?_); refine hx_store rfl rfl 42 (.tmp 6) (.tmp 25) rfl s1 24 rfl (nums .i64 x).toArray rfl (by kernel_rfl) (nums_size _ _ _ HXL.out) (nums_one _ _) HA.out (by simp [nums]) ?_; intro w3 t_ gg_; have HA3 := Aside0.mk gg_; have HB3 := Aside0.mk (t_.below HB2.out (by omega)); have OO3 := Aside0.mk (Kd.R_kept OO2.out (kept_touch t_) (fun k hk h_ => by have h1_ : k = s1 := h_; have h2_ : k < s1 := hk; omega)); obtain ⟨s3, Sz3⟩ : ∃ s, Aside0 (w3.heap.size = s) := ⟨_, ⟨rfl⟩⟩; clear t_ gg_ HA HB2 OO2) | ((with_reducible refine gate_dst (N := 30) rfl ?_); refine hx_load rfl 42 (.tmp 6) rfl s1 24 rfl Try.underlying42 rfl (by kernel_rfl) HA3.out (nums_size _ _ _ HXL.out) ?_) | ((with_reducible refine gate_dst (N := 31) rfl ?_); refine hx_lit1 rfl 51 42 24 (.tmp 30) rfl x rfl HXL.out Sz3 (impl_DecodeTable.lit1 x HXL.out) ?_; intro w5 b_ C5; have HB5 := Aside0.mk (below_then HB3.out HB3.out.size b_); have OO5 := Aside0.mk (Kd.R_mono (ok' := fun _ => True) (Kd.R_below OO3.out b_) (fun _ _ => trivial)); clear b_ HB3 OO3 HA3) | ((with_reducible refine gate_dst (N := 32) rfl ?_); refine Kd.R_append_rows (PrintHx.wide 24) (w0 := w) w.heap.size rfl (.tmp 29) (.tmp 31) 51 42 (.agg (nums .i64 (List.replicate 24 0)).toArray) 192 rfl Try.underlying51 hi_ rfl (by decide) (by omega) v4 rs [x] _ _ _ (fun _ => True) (fun _ => False) rfl rfl OO5.out C5.out (fun _ _ h => h) (fun _ h => h.elim) (fun _ _ => trivial) HB5.out HB5.out.size (by have := HRL.out; have := HJ.out; have := HN1.out; omega) ?_; intro v35 w6 ho hb hg_ hn_; have OO6 := Aside0.mk ho; have HB6 := Aside0.mk hb; clear ho hb hg_ hn_ HB5 OO5 C5) | ((with_reducible refine gate_dst (N := 17) rfl ?_); refine hx_addn rfl 3 (.tmp 16) _ rfl k 128 rfl rfl (by have := HK.out; have := HJ.out; have := HN1.out; omega) ?_; intro k3 E3))
          go_roundw
          case rel => exact ⟨j + 1, k3, _, _, _, rfl, rfl, rfl, rfl, ⟨by have := E3.out; have := HK.out; omega⟩, ⟨by have := HJ.out; omega⟩, ⟨fun i hi => by
            by_cases hij : i = j
            · rw [hij]; exact HCD.out
            · exact HG.out i (by omega)⟩, ⟨by rw [rowsTo_succ, ← HRS.out, ← HX.out]; exact OO6.out⟩, HB6⟩
          case measure =>
            simp only [intOf, Int.toNat_natCast]
            have := E3.out
            have := C9.out
            omega
        · have HD := Aside0.mk (show ∀ c, c = chunk l0 j → impl_DecodeInode.f c = some (x, 21) by
            intro c hc
            unfold impl_DecodeInode.f
            rw [if_pos (show ∀ y ∈ c, 0 ≤ y ∧ y ≤ 255 by rw [hc]; exact seg_byt HBY.out _ _), ← decI_same (show Byt c by rw [hc]; exact seg_byt HBY.out _ _), hc, show (x, (21 : Int)) = decAt l0 j from Prod.ext HX.out (decAt_code l0 j hcd).symm]
            rfl)
          have h_ := HH.out
          rw [impl_DecodeTable.bad (.inr (.inl (by rw [← HNE.out]; exact chunksOk_not HJ.out hcd)))] at h_
          simp only [Prod.mk.injEq] at h_
          obtain ⟨rfl, rfl⟩ := h_
          clear hcd
          go_wp2_with (first | ((with_reducible refine gate_dst (N := 22) rfl ?_); refine hx_addn rfl 3 (.tmp 21) _ rfl k 128 rfl rfl (by have := HK.out; have := HJ.out; have := HN1.out; omega) ?_; intro k2 E2) | ((with_reducible refine gate_dst (N := 23) rfl ?_); refine hx_mid rfl 25 5 (.tmp 19) (.tmp 20) (.tmp 22) rfl A0 c0 l0 k k2 rfl rfl rfl Try.underlying25 (by kernel_rfl) (by have := E2.out; omega) (by have := E2.out; have := HK.out; have := HJ.out; have := HN.out; omega) HC0.out (Kd.C_below HR0.out HB.out) ?_; intro A26 c26 l26 E26 C26 K26) | ((with_reducible refine gate_dst (N := 24) rfl ?_); refine goesL_ (some 24) rfl rfl Try.func25 (by kernel_rfl) rfl #[.slice A26 l26.length c26] rfl (by (try simp only [List.map_toArray, List.map_cons, List.map_nil]); first | done | rfl) ?_; refine (impl_DecodeInode.calls A26 c26 l26 _ _ _ C26.out K26.out (HD.out l26 (by rw [E26.out, show k2 - k = 128 by (have := E2.out; omega), HK.out]; rfl))).mono ?_; rintro e_ w1 ⟨rfl, b_⟩; refine ⟨_, rfl, ?_⟩; have HB1 := Aside0.mk (below_then HB.out HB.out.size b_); obtain ⟨s1, Sz1⟩ : ∃ s, Aside0 (w1.heap.size = s) := ⟨_, ⟨rfl⟩⟩; have hs1 : w.heap.size ≤ s1 := (by rw [← Sz1.out]; exact HB1.out.size); have OO1 := Aside0.mk (Kd.R_mono (ok' := fun k => k < s1) (Kd.R_bound (Kd.R_below OO.out b_)) (fun k hk => by have h_ := hk.2.2.1; rw [Sz1.out] at h_; exact h_)); clear b_ HB OO C26 K26) | ((with_reducible refine gate_dst (N := 6) rfl ?_); refine hx_alloc rfl 6 rfl 42 rfl Sz1 (.agg (nums .i64 (List.replicate 24 0)).toArray) (nums .i64 (List.replicate 24 0)).toArray Z42 rfl ?_; intro w2 s2 L2 Sz2 b_ g_; have HA := Aside0.mk g_; have HB2 := Aside0.mk (below_then HB1.out HB1.out.size b_); have OO2 := Aside0.mk (Kd.R_below OO1.out b_); clear b_ g_ HB1 OO1) | ((with_reducible refine gate_store (t := 42) (p := 6) (v := .tmp 25) rfl ?_); refine hx_store rfl rfl 42 (.tmp 6) (.tmp 25) rfl s1 24 rfl (nums .i64 x).toArray rfl (by kernel_rfl) (nums_size _ _ _ HXL.out) (nums_one _ _) HA.out (by simp [nums]) ?_; intro w3 t_ gg_; have HA3 := Aside0.mk gg_; have HB3 := Aside0.mk (t_.below HB2.out (by omega)); have OO3 := Aside0.mk (Kd.R_kept OO2.out (kept_touch t_) (fun k hk h_ => by have h1_ : k = s1 := h_; have h2_ : k < s1 := hk; omega)); obtain ⟨s3, Sz3⟩ : ∃ s, Aside0 (w3.heap.size = s) := ⟨_, ⟨rfl⟩⟩; clear t_ gg_ HA HB2 OO2))
          go_ret2
          exact ⟨_, rfl, Kd.R_nil _ _ _ _ _, HB3.out⟩
      · obtain rfl : k = l0.length := by have := hj.out; have := HK.out; have := HN.out; omega
        obtain rfl : j = n := by have := hj.out; have := HK.out; have := HN.out; omega
        have c9b0 : decide ((l0.length : Int) < (l0.length : Int)) = false := decide_eq_false (by omega)
        have c9b1 : decide (l0.length < l0.length) = false := decide_eq_false c9
        clear c9
        obtain ⟨rs, hrs⟩ : ∃ rs, rs = rowsTo l0 j := ⟨_, rfl⟩
        rw [← hrs] at OO
        have HRL := Aside0.mk (show rs.length = j by rw [hrs]; exact rowsTo_length l0 j)
        have HAG := Aside0.mk (show allGood rs = true by rw [hrs]; exact rows_good HG.out)
        have HW := Aside0.mk (show ∀ x ∈ rs, x.length = 24 by rw [hrs]; exact rowsTo_wide l0 j)
        have HD1 := Aside0.mk (show tabEnd rs = true → decTable l0 = (rs, 0) by
          intro ht
          unfold decTable
          rw [← HNE.out, chunksOk_of HG.out, ← hrs, ht, ← HSB.out]
          rfl)
        have HD0 := Aside0.mk (show tabEnd rs = false → decTable l0 = ([], 21) by
          intro ht
          exact impl_DecodeTable.bad (.inr (.inr (by rw [← HNE.out, ← hrs]; exact ht))))
        clear hrs
        obtain ⟨A4, c4, rfl⟩ := Kd.R_slice OO.out
        have hr_ := (Kd.R_reads' OO.out).2.2
        have hp0 : 0 < rs.length := by rw [HRL.out]; have := HN1.out; omega
        obtain ⟨ad, ea, _, hc0⟩ := wide_at hr_ 0 hp0
        subst ea
        obtain ⟨ad2, ea2, _, hc1⟩ := wide_at hr_ (rs.length - 1) (by omega)
        cases ea2
        obtain ⟨y0, hy0⟩ : ∃ y, y = (rs.getD 0 []).getD 0 0 := ⟨_, rfl⟩
        obtain ⟨y1, hy1⟩ : ∃ y, y = (rs.getD (rs.length - 1) []).getD 0 0 := ⟨_, rfl⟩
        have k0_ := hc0 0 (by decide)
        rw [← hy0] at k0_
        replace k0_ : wr.cell? ad = some (.int .i64 y0) := by simpa [Addr.add_zero'] using k0_
        have k1_ := hc1 0 (by decide)
        rw [← hy1, Nat.add_zero] at k1_
        have K1 := Aside0.mk k1_
        have HTE := Aside0.mk (show tabEnd rs = (decide (y0 = 0) && (decide (rs.length ≤ 2) || !decide (y1 = 0))) by rw [hy0, hy1]; rfl)
        have q0 : (0 ≤ (0 : Int)) = True := eq_true (by decide)
        have q3 : ((0 : Int) < (rs.length : Int)) = True := eq_true (by omega)
        have q5 : (0 < rs.length) = True := eq_true hp0
        clear hc0 hc1 hy0 hy1 k1_ hr_
        by_cases c0z : y0 = 0
        · have c36 : (y0 != 0) = false := by rw [c0z]; rfl
          by_cases c2 : 2 < rs.length
          · have c41b0 : decide ((2 : Int) < (rs.length : Int)) = true := decide_eq_true (by omega)
            have c41b1 : decide (2 < rs.length) = true := decide_eq_true c2
            have HP := Aside0.mk hp0
            by_cases c1z : y1 = 0
            · have c50 : (y1 == 0) = true := beq_iff_eq.2 c1z
              have HT := Aside0.mk (show tabEnd rs = false by rw [HTE.out, decide_eq_true c1z, decide_eq_false (show ¬ rs.length ≤ 2 by omega)]; simp)
              clear c1z c2 c0z hp0
              go_wp2_with (first | ((with_reducible refine gate_dst (N := 46) rfl ?_); refine Go.Proofs.YtkghgjehjchajaaW.PrintTab2.ungd (by rfl) ?_; refine hx_subn rfl 3 (.tmp 45) _ rfl rs.length 1 rfl rfl (by have := HRL.out; have := HN1.out; omega) HP.out ?_; intro n1 En; have q6 : (0 ≤ (n1 : Int)) = True := eq_true (by omega); have q7 : ((n1 : Int) < (rs.length : Int)) = True := eq_true (by have := En.out; omega); have q8 : (n1 < rs.length) = True := eq_true (by have := En.out; omega)) | ((with_reducible refine gate_dst (N := 49) rfl ?_); refine Go.Proofs.YtkghgjehjchajaaW.PrintTab2.ungd (by rfl) ?_; refine hx_ld1 rfl 3 (.tmp 48) rfl _ rfl (.int .i64 y1) Try.underlying3 rfl (by have h_ := K1.out; rw [show rs.length - 1 = n1 by (have := En.out; omega)] at h_; first | exact h_ | simpa [Addr.add_zero'] using h_) ?_))
              go_ret2
              have h_ := HH.out
              rw [HD0.out HT.out] at h_
              simp only [Prod.mk.injEq] at h_
              obtain ⟨rfl, rfl⟩ := h_
              exact ⟨_, rfl, Kd.R_nil _ _ _ _ _, HB.out⟩
            · have c50 : (y1 == 0) = false := beq_eq_false_iff_ne.2 c1z
              have HT := Aside0.mk (show tabEnd rs = true by rw [HTE.out, decide_eq_true c0z, decide_eq_false c1z]; simp)
              clear c1z c2 c0z hp0
              go_wp2_with (first | ((with_reducible refine gate_dst (N := 46) rfl ?_); refine Go.Proofs.YtkghgjehjchajaaW.PrintTab2.ungd (by rfl) ?_; refine hx_subn rfl 3 (.tmp 45) _ rfl rs.length 1 rfl rfl (by have := HRL.out; have := HN1.out; omega) HP.out ?_; intro n1 En; have q6 : (0 ≤ (n1 : Int)) = True := eq_true (by omega); have q7 : ((n1 : Int) < (rs.length : Int)) = True := eq_true (by have := En.out; omega); have q8 : (n1 < rs.length) = True := eq_true (by have := En.out; omega)) | ((with_reducible refine gate_dst (N := 49) rfl ?_); refine Go.Proofs.YtkghgjehjchajaaW.PrintTab2.ungd (by rfl) ?_; refine hx_ld1 rfl 3 (.tmp 48) rfl _ rfl (.int .i64 y1) Try.underlying3 rfl (by have h_ := K1.out; rw [show rs.length - 1 = n1 by (have := En.out; omega)] at h_; first | exact h_ | simpa [Addr.add_zero'] using h_) ?_))
              go_ret2
              have h_ := HH.out
              rw [HD1.out HT.out] at h_
              simp only [Prod.mk.injEq] at h_
              obtain ⟨rfl, rfl⟩ := h_
              exact ⟨_, rfl, OO.out, HB.out⟩
          · have c41b0 : decide ((2 : Int) < (rs.length : Int)) = false := decide_eq_false (by omega)
            have c41b1 : decide (2 < rs.length) = false := decide_eq_false c2
            have HT := Aside0.mk (show tabEnd rs = true by rw [HTE.out, decide_eq_true c0z, decide_eq_true (show rs.length ≤ 2 by omega)]; simp)
            clear c2 c0z hp0
            go_wp2
            go_ret2
            have h_ := HH.out
            rw [HD1.out HT.out] at h_
            simp only [Prod.mk.injEq] at h_
            obtain ⟨rfl, rfl⟩ := h_
            exact ⟨_, rfl, OO.out, HB.out⟩
        · have c36 : (y0 != 0) = true := bne_iff_ne.2 c0z
          have HT := Aside0.mk (show tabEnd rs = false by rw [HTE.out, decide_eq_false c0z]; rfl)
          clear c0z hp0
          go_wp2
          go_ret2
          have h_ := HH.out
          rw [HD0.out HT.out] at h_
          simp only [Prod.mk.injEq] at h_
          obtain ⟨rfl, rfl⟩ := h_
          exact ⟨_, rfl, Kd.R_nil _ _ _ _ _, HB.out⟩

open Go.Proofs.YtkghgjehjchajaaW Go.Proofs.YtkghgjehjchajaaW.PrintHand Go.Proofs.YtkghgjehjchajaaW.PrintHx
/-! ### laws_heldInodeS: function 35 -/
open Go.Proofs.YtkghgjehjchajaaW.PrintTabl Go.Proofs.YtkghgjehjchajaaW.PrintTab2 Go.Proofs.YtkghgjehjchajaaW.PrintTab3
def laws_heldInodeS.f (l0 : List (List Int)) (a1 : Int) : Option Int := if a1 = 1 ∧ l0.length ≤ 1048576 ∧ l0 = marks 1 l0.length then some ((1 + 24 * l0.length : Nat) : Int) else none
set_option maxHeartbeats 8000000 in
set_option maxRecDepth 100000 in
theorem laws_heldInodeS.calls (A0 : Option Addr) (c0 : Nat) (l0 : List (List Int)) (a1 : Int) (r : Int) (w : World) (hr0 : Kd.C (PrintHx.wide 24) w A0 l0.length l0) (hc0 : l0.length ≤ c0) (h : laws_heldInodeS.f l0 a1 = some r) :
    Calls Try.prog 35 #[.slice A0 l0.length c0, .int .i64 a1] w fun e w' => e = .returned (.int .i64 r) ∧ Below w.heap.size w w' := by
  unfold laws_heldInodeS.f at h
  by_cases hd : a1 = 1 ∧ l0.length ≤ 1048576 ∧ l0 = marks 1 l0.length
  case neg => rw [if_neg hd] at h; cases h
  rw [if_pos hd] at h
  obtain rfl := Option.some.inj h
  obtain rfl := hd.1
  have HLEN := Aside0.mk hd.2.1
  have HMK := Aside0.mk hd.2.2
  have HR0 := Aside0.mk hr0
  have HB := Aside0.mk (Below.refl w.heap.size w)
  clear hd hr0 hc0
  go_enter Try.func35, Try.ntmps35
  go_wp2
  (try simp only [Act.put, List.setIfInBounds_toArray, List.set_cons_succ, List.set_cons_zero])
  go_loopw [1, 5, 6] (fun v1 v5 v6 wr => ∃ (j kk : Nat) (u6 : Value), u6 = v6 ∧ v5 = .int .i64 (j : Int) ∧ v1 = .int .i64 (kk : Int) ∧ Aside0 (j ≤ l0.length) ∧ Aside0 (kk = 1 + 24 * j) ∧ Aside0 (Below w.heap.size w wr)) (fun _ v5 _ _ => l0.length - (intOf v5).toNat)
  case atStart => exact ⟨0, 1, _, rfl, rfl, rfl, ⟨Nat.zero_le _⟩, ⟨rfl⟩, HB⟩
  case round =>
    clear HB
    obtain ⟨j, kk, v6, rfl, rfl, rfl, hj, HKK, HB⟩ := hrel
    by_cases c9 : j < l0.length
    · have c9b0 : decide ((j : Int) < (l0.length : Int)) = true := decide_eq_true (by omega)
      have c9b1 : decide (j < l0.length) = true := decide_eq_true c9
      obtain ⟨ad, ea, hl, hc⟩ := wide_at (Kd.C_below HR0.out HB.out) j c9
      subst ea
      have hc2 : ∀ i, i < 24 → wr.cell? (ad.add (j * 24 + i)) = some (.int .i64 ((1 + 24 * j + i : Nat) : Int)) := by
        intro i hi
        rw [hc i hi, HMK.out, marks_getD 1 l0.length j i c9 hi]
      have HC := Aside0.mk (show wr.cell? (ad.add (j * 24)) = some (.int .i64 ((1 + 24 * j : Nat) : Int)) from hc2 0 (by decide))
      have HC2 := Aside0.mk (show ∀ i, 0 < i → i < 24 → wr.cell? ⟨(ad.add (j * 24)).block, (ad.add (j * 24)).off + i, none⟩ = some (.int .i64 ((1 + 24 * j + i : Nat) : Int)) by
        intro i h0 hi
        have h_ := hc2 i hi
        rw [← Addr.add_add] at h_
        rw [show (ad.add (j * 24)).add i = ⟨(ad.add (j * 24)).block, (ad.add (j * 24)).off + i, none⟩ by rw [Addr.add, if_neg (by omega)]] at h_
        exact h_)
      have KK := Aside0.mk (show kk ≤ 30000000 by have := HKK.out; have := HLEN.out; omega)
      obtain ⟨k0, hk0⟩ : ∃ k0, k0 = kk := ⟨_, rfl⟩
      rw [← hk0]
      have F0 := Aside0.mk (show k0 = kk + (0) by omega)
      have q1 : ((j : Int) < (l0.length : Int)) = True := eq_true (by omega)
      have q2 : (j < l0.length) = True := eq_true c9
      have q4 : (0 ≤ (j : Int)) = True := eq_true (by omega)
      have C9 := Aside0.mk c9
      clear hl hc hc2 c9 hk0
      go_wp2_with (first | ((with_reducible refine gate_dst (N := 17) rfl ?_); refine hx_ld1 rfl 3 (.tmp 16) rfl _ rfl (.int .i64 (k0 : Int)) Try.underlying3 rfl (by have h_ := HC.out; rw [show 1 + 24 * j = k0 by (have h1_ := HKK.out; have h2_ := F0.out; omega)] at h_; first | exact h_ | (rw [show (ad.add (j * 24)).off + (10 + jj) = (ad.add (j * 24)).off + 9 + 1 + jj by omega] at h_; exact h_) | (rw [show (ad.add (j * 24)).off + (10 + jj) = (ad.add (j * 24)).off + 9 + 1 + jj * 1 by omega] at h_; exact h_)) ?_) | ((with_reducible refine gate_dst (N := 21) rfl ?_); refine hx_addn rfl 3 (.tmp 20) _ rfl k0 1 rfl rfl (by have := F0.out; have := KK.out; omega) ?_; intro k1 e_; have F1 := Aside0.mk (show k1 = kk + (1) by have := e_.out; have := F0.out; omega); clear e_) | ((with_reducible refine gate_dst (N := 26) rfl ?_); refine hx_ld1 rfl 3 (.tmp 25) rfl _ rfl (.int .i64 (k1 : Int)) Try.underlying3 rfl (by have h_ := HC2.out (1) (by omega) (by omega); rw [show 1 + 24 * j + (1) = k1 by (have h1_ := HKK.out; have h2_ := F1.out; omega)] at h_; first | exact h_ | (rw [show (ad.add (j * 24)).off + (10 + jj) = (ad.add (j * 24)).off + 9 + 1 + jj by omega] at h_; exact h_) | (rw [show (ad.add (j * 24)).off + (10 + jj) = (ad.add (j * 24)).off + 9 + 1 + jj * 1 by omega] at h_; exact h_)) ?_) | ((with_reducible refine gate_dst (N := 30) rfl ?_); refine hx_addn rfl 3 (.tmp 29) _ rfl k1 1 rfl rfl (by have := F1.out; have := KK.out; omega) ?_; intro k2 e_; have F2 := Aside0.mk (show k2 = kk + (2) by have := e_.out; have := F1.out; omega); clear e_) | ((with_reducible refine gate_dst (N := 35) rfl ?_); refine hx_ld1 rfl 3 (.tmp 34) rfl _ rfl (.int .i64 (k2 : Int)) Try.underlying3 rfl (by have h_ := HC2.out (2) (by omega) (by omega); rw [show 1 + 24 * j + (2) = k2 by (have h1_ := HKK.out; have h2_ := F2.out; omega)] at h_; first | exact h_ | (rw [show (ad.add (j * 24)).off + (10 + jj) = (ad.add (j * 24)).off + 9 + 1 + jj by omega] at h_; exact h_) | (rw [show (ad.add (j * 24)).off + (10 + jj) = (ad.add (j * 24)).off + 9 + 1 + jj * 1 by omega] at h_; exact h_)) ?_) | ((with_reducible refine gate_dst (N := 39) rfl ?_); refine hx_addn rfl 3 (.tmp 38) _ rfl k2 1 rfl rfl (by have := F2.out; have := KK.out; omega) ?_; intro k3 e_; have F3 := Aside0.mk (show k3 = kk + (3) by have := e_.out; have := F2.out; omega); clear e_) | ((with_reducible refine gate_dst (N := 44) rfl ?_); refine hx_ld1 rfl 3 (.tmp 43) rfl _ rfl (.int .i64 (k3 : Int)) Try.underlying3 rfl (by have h_ := HC2.out (3) (by omega) (by omega); rw [show 1 + 24 * j + (3) = k3 by (have h1_ := HKK.out; have h2_ := F3.out; omega)] at h_; first | exact h_ | (rw [show (ad.add (j * 24)).off + (10 + jj) = (ad.add (j * 24)).off + 9 + 1 + jj by omega] at h_; exact h_) | (rw [show (ad.add (j * 24)).off + (10 + jj) = (ad.add (j * 24)).off + 9 + 1 + jj * 1 by omega] at h_; exact h_)) ?_) | ((with_reducible refine gate_dst (N := 48) rfl ?_); refine hx_addn rfl 3 (.tmp 47) _ rfl k3 1 rfl rfl (by have := F3.out; have := KK.out; omega) ?_; intro k4 e_; have F4 := Aside0.mk (show k4 = kk + (4) by have := e_.out; have := F3.out; omega); clear e_) | ((with_reducible refine gate_dst (N := 53) rfl ?_); refine hx_ld1 rfl 3 (.tmp 52) rfl _ rfl (.int .i64 (k4 : Int)) Try.underlying3 rfl (by have h_ := HC2.out (4) (by omega) (by omega); rw [show 1 + 24 * j + (4) = k4 by (have h1_ := HKK.out; have h2_ := F4.out; omega)] at h_; first | exact h_ | (rw [show (ad.add (j * 24)).off + (10 + jj) = (ad.add (j * 24)).off + 9 + 1 + jj by omega] at h_; exact h_) | (rw [show (ad.add (j * 24)).off + (10 + jj) = (ad.add (j * 24)).off + 9 + 1 + jj * 1 by omega] at h_; exact h_)) ?_) | ((with_reducible refine gate_dst (N := 57) rfl ?_); refine hx_addn rfl 3 (.tmp 56) _ rfl k4 1 rfl rfl (by have := F4.out; have := KK.out; omega) ?_; intro k5 e_; have F5 := Aside0.mk (show k5 = kk + (5) by have := e_.out; have := F4.out; omega); clear e_) | ((with_reducible refine gate_dst (N := 62) rfl ?_); refine hx_ld1 rfl 3 (.tmp 61) rfl _ rfl (.int .i64 (k5 : Int)) Try.underlying3 rfl (by have h_ := HC2.out (5) (by omega) (by omega); rw [show 1 + 24 * j + (5) = k5 by (have h1_ := HKK.out; have h2_ := F5.out; omega)] at h_; first | exact h_ | (rw [show (ad.add (j * 24)).off + (10 + jj) = (ad.add (j * 24)).off + 9 + 1 + jj by omega] at h_; exact h_) | (rw [show (ad.add (j * 24)).off + (10 + jj) = (ad.add (j * 24)).off + 9 + 1 + jj * 1 by omega] at h_; exact h_)) ?_) | ((with_reducible refine gate_dst (N := 66) rfl ?_); refine hx_addn rfl 3 (.tmp 65) _ rfl k5 1 rfl rfl (by have := F5.out; have := KK.out; omega) ?_; intro k6 e_; have F6 := Aside0.mk (show k6 = kk + (6) by have := e_.out; have := F5.out; omega); clear e_) | ((with_reducible refine gate_dst (N := 71) rfl ?_); refine hx_ld1 rfl 3 (.tmp 70) rfl _ rfl (.int .i64 (k6 : Int)) Try.underlying3 rfl (by have h_ := HC2.out (6) (by omega) (by omega); rw [show 1 + 24 * j + (6) = k6 by (have h1_ := HKK.out; have h2_ := F6.out; omega)] at h_; first | exact h_ | (rw [show (ad.add (j * 24)).off + (10 + jj) = (ad.add (j * 24)).off + 9 + 1 + jj by omega] at h_; exact h_) | (rw [show (ad.add (j * 24)).off + (10 + jj) = (ad.add (j * 24)).off + 9 + 1 + jj * 1 by omega] at h_; exact h_)) ?_) | ((with_reducible refine gate_dst (N := 75) rfl ?_); refine hx_addn rfl 3 (.tmp 74) _ rfl k6 1 rfl rfl (by have := F6.out; have := KK.out; omega) ?_; intro k7 e_; have F7 := Aside0.mk (show k7 = kk + (7) by have := e_.out; have := F6.out; omega); clear e_) | ((with_reducible refine gate_dst (N := 80) rfl ?_); refine hx_ld1 rfl 3 (.tmp 79) rfl _ rfl (.int .i64 (k7 : Int)) Try.underlying3 rfl (by have h_ := HC2.out (7) (by omega) (by omega); rw [show 1 + 24 * j + (7) = k7 by (have h1_ := HKK.out; have h2_ := F7.out; omega)] at h_; first | exact h_ | (rw [show (ad.add (j * 24)).off + (10 + jj) = (ad.add (j * 24)).off + 9 + 1 + jj by omega] at h_; exact h_) | (rw [show (ad.add (j * 24)).off + (10 + jj) = (ad.add (j * 24)).off + 9 + 1 + jj * 1 by omega] at h_; exact h_)) ?_) | ((with_reducible refine gate_dst (N := 84) rfl ?_); refine hx_addn rfl 3 (.tmp 83) _ rfl k7 1 rfl rfl (by have := F7.out; have := KK.out; omega) ?_; intro k8 e_; have F8 := Aside0.mk (show k8 = kk + (8) by have := e_.out; have := F7.out; omega); clear e_) | ((with_reducible refine gate_dst (N := 89) rfl ?_); refine hx_ld1 rfl 3 (.tmp 88) rfl _ rfl (.int .i64 (k8 : Int)) Try.underlying3 rfl (by have h_ := HC2.out (8) (by omega) (by omega); rw [show 1 + 24 * j + (8) = k8 by (have h1_ := HKK.out; have h2_ := F8.out; omega)] at h_; first | exact h_ | (rw [show (ad.add (j * 24)).off + (10 + jj) = (ad.add (j * 24)).off + 9 + 1 + jj by omega] at h_; exact h_) | (rw [show (ad.add (j * 24)).off + (10 + jj) = (ad.add (j * 24)).off + 9 + 1 + jj * 1 by omega] at h_; exact h_)) ?_) | ((with_reducible refine gate_dst (N := 93) rfl ?_); refine hx_addn rfl 3 (.tmp 92) _ rfl k8 1 rfl rfl (by have := F8.out; have := KK.out; omega) ?_; intro k9 e_; have F9 := Aside0.mk (show k9 = kk + (9) by have := e_.out; have := F8.out; omega); clear e_) | ((with_reducible refine gate_dst (N := 99) rfl ?_); refine hx_ld1 rfl 3 (.tmp 98) rfl _ rfl (.int .i64 (k9 : Int)) Try.underlying3 rfl (by have h_ := HC2.out (9) (by omega) (by omega); rw [show 1 + 24 * j + (9) = k9 by (have h1_ := HKK.out; have h2_ := F9.out; omega)] at h_; first | exact h_ | (rw [show (ad.add (j * 24)).off + (10 + jj) = (ad.add (j * 24)).off + 9 + 1 + jj by omega] at h_; exact h_) | (rw [show (ad.add (j * 24)).off + (10 + jj) = (ad.add (j * 24)).off + 9 + 1 + jj * 1 by omega] at h_; exact h_)) ?_) | ((with_reducible refine gate_dst (N := 103) rfl ?_); refine hx_addn rfl 3 (.tmp 102) _ rfl k9 1 rfl rfl (by have := F9.out; have := KK.out; omega) ?_; intro k10 e_; have F10 := Aside0.mk (show k10 = kk + (10) by have := e_.out; have := F9.out; omega); clear e_))
      (try simp only [Act.put, List.setIfInBounds_toArray, List.set_cons_succ, List.set_cons_zero])
      go_loopw [1, 6] (fun v1 v6 wq => ∃ (jj kq : Nat), v6 = .int .i64 (jj : Int) ∧ v1 = .int .i64 (kq : Int) ∧ wq = wr ∧ Aside0 (jj ≤ 12) ∧ Aside0 (kq = kk + (10 + jj))) (fun _ v6 _ => 12 - (intOf v6).toNat)
      case atStart => exact ⟨0, k10, rfl, rfl, rfl, ⟨by omega⟩, F10⟩
      case round =>
        clear F10
        obtain ⟨jj, kq, rfl, rfl, rfl, hjj, Fq⟩ := hrel
        by_cases c85 : jj < 12
        · have c85b0 : decide ((jj : Int) < 12) = true := decide_eq_true (by omega)
          have c85b1 : decide (jj < 12) = true := decide_eq_true c85
          have q6 : (0 ≤ (jj : Int)) = True := eq_true (by omega)
          have q7 : ((jj : Int) < 12) = True := eq_true (by omega)
          have q8 : (jj < 12) = True := eq_true c85
          go_wp2_with (first | ((with_reducible refine gate_dst (N := 115) rfl ?_); refine hx_ld1 rfl 3 (.tmp 114) rfl _ rfl (.int .i64 (kq : Int)) Try.underlying3 rfl (by have h_ := HC2.out (10 + jj) (by omega) (by omega); rw [show 1 + 24 * j + (10 + jj) = kq by (have h1_ := HKK.out; have h2_ := Fq.out; omega)] at h_; first | exact h_ | (rw [show (ad.add (j * 24)).off + (10 + jj) = (ad.add (j * 24)).off + 9 + 1 + jj by omega] at h_; exact h_) | (rw [show (ad.add (j * 24)).off + (10 + jj) = (ad.add (j * 24)).off + 9 + 1 + jj * 1 by omega] at h_; exact h_)) ?_) | ((with_reducible refine gate_dst (N := 119) rfl ?_); refine hx_addn rfl 3 (.tmp 118) _ rfl kq 1 rfl rfl (by have := Fq.out; have := KK.out; omega) ?_; intro kqn e_; have Fqn := Aside0.mk (show kqn = kk + (10 + (jj + 1)) by have := e_.out; have := Fq.out; omega); clear e_))
          go_roundw
          case rel => exact ⟨jj + 1, kqn, by first | rw [show wrap64 ((jj : Int) + 1) = ((jj + 1 : Nat) : Int) by unfold wrap64; omega] | (simp; done), (by first | rfl | trivial), (by first | rfl | trivial), ⟨by omega⟩, Fqn⟩
          case measure =>
            (try rw [show wrap64 ((jj : Int) + 1) = ((jj + 1 : Nat) : Int) by unfold wrap64; omega])
            simp only [intOf]
            omega
        · obtain rfl : jj = 12 := by have := hjj.out; omega
          have c85b0 : decide ((12 : Int) < 12) = false := by decide
          have F22 := Fq
          obtain ⟨k22, hk22⟩ : ∃ k22, k22 = kq := ⟨_, rfl⟩
          rw [← hk22] at F22
          rw [← hk22]
          clear Fq c85 hk22
          go_wp2_with (first | ((with_reducible refine gate_dst (N := 125) rfl ?_); refine hx_ld1 rfl 3 (.tmp 124) rfl _ rfl (.int .i64 (k22 : Int)) Try.underlying3 rfl (by have h_ := HC2.out (22) (by omega) (by omega); rw [show 1 + 24 * j + (22) = k22 by (have h1_ := HKK.out; have h2_ := F22.out; omega)] at h_; first | exact h_ | (rw [show (ad.add (j * 24)).off + (10 + jj) = (ad.add (j * 24)).off + 9 + 1 + jj by omega] at h_; exact h_) | (rw [show (ad.add (j * 24)).off + (10 + jj) = (ad.add (j * 24)).off + 9 + 1 + jj * 1 by omega] at h_; exact h_)) ?_) | ((with_reducible refine gate_dst (N := 129) rfl ?_); refine hx_addn rfl 3 (.tmp 128) _ rfl k22 1 rfl rfl (by have := F22.out; have := KK.out; omega) ?_; intro k23 e_; have F23 := Aside0.mk (show k23 = kk + (23) by have := e_.out; have := F22.out; omega); clear e_) | ((with_reducible refine gate_dst (N := 135) rfl ?_); refine hx_ld1 rfl 3 (.tmp 134) rfl _ rfl (.int .i64 (k23 : Int)) Try.underlying3 rfl (by have h_ := HC2.out (23) (by omega) (by omega); rw [show 1 + 24 * j + (23) = k23 by (have h1_ := HKK.out; have h2_ := F23.out; omega)] at h_; first | exact h_ | (rw [show (ad.add (j * 24)).off + (10 + jj) = (ad.add (j * 24)).off + 9 + 1 + jj by omega] at h_; exact h_) | (rw [show (ad.add (j * 24)).off + (10 + jj) = (ad.add (j * 24)).off + 9 + 1 + jj * 1 by omega] at h_; exact h_)) ?_) | ((with_reducible refine gate_dst (N := 139) rfl ?_); refine hx_addn rfl 3 (.tmp 138) _ rfl k23 1 rfl rfl (by have := F23.out; have := KK.out; omega) ?_; intro k24 e_; have F24 := Aside0.mk (show k24 = kk + (24) by have := e_.out; have := F23.out; omega); clear e_))
          go_roundw
          case rel => exact ⟨j + 1, k24, _, rfl, by rw [show wrap64 ((j : Int) + 1) = ((j + 1 : Nat) : Int) by (have := HLEN.out; have := C9.out; unfold wrap64; omega)], rfl, ⟨by have := C9.out; omega⟩, ⟨by have := F24.out; have := HKK.out; omega⟩, HB⟩
          case measure =>
            rw [show wrap64 ((j : Int) + 1) = ((j + 1 : Nat) : Int) by (have := HLEN.out; have := C9.out; unfold wrap64; omega)]
            simp only [intOf, Int.toNat_natCast]
            have := C9.out
            omega
    · obtain rfl : j = l0.length := by have := hj.out; omega
      have c9b0 : decide ((l0.length : Int) < (l0.length : Int)) = false := decide_eq_false (by omega)
      have c9b1 : decide (l0.length < l0.length) = false := decide_eq_false c9
      clear c9
      go_wp2
      go_ret
      refine ⟨by have h2_ := HKK.out; subst h2_; rfl, HB.out⟩

open Go.Proofs.YtkghgjehjchajaaW Go.Proofs.YtkghgjehjchajaaW.PrintHand Go.Proofs.YtkghgjehjchajaaW.PrintHx
/-! ### laws_FnExactDecodeTable: function 8 -/
def laws_FnExactDecodeTable.Facts (l0 : List Int) : Prop := (∃ (k : Nat), (¬ ((l0.length : Int) > 1048576) → (∃ (r1_0 : List Int) (r2_0 : List (List Int)) (r2_1 : Int) (r3_0 : List Int) (r4_0 : List (List Int)) (r6_0 : List Int) (r8_0 : Int) (r8_k0 : List Int) (r10_0 : Int) (r10_k0 : List (List Int)) (r12_0 : List Int) (r13_0 : List (List Int)), laws_toByteS.f k l0 = some r1_0 ∧ spec_DecodeTable.f r1_0 = some (r2_0, r2_1) ∧ laws_toByteS.f k l0 = some r3_0 ∧ impl_DecodeTable.f r3_0 = some (r4_0, r2_1) ∧ laws_eqInodeS.f r4_0 r2_0 = some true ∧ laws_toByteS.f k l0 = some r6_0 ∧ laws_eqByteS.f k r3_0 r6_0 = some true ∧ laws_markByteS.f k r3_0 1 = some (r8_0, r8_k0) ∧ laws_eqInodeS.f r4_0 r2_0 = some true ∧ laws_markInodeS.f r4_0 1 = some (r10_0, r10_k0) ∧ laws_heldInodeS.f r10_k0 1 = some r10_0 ∧ laws_toByteS.f k l0 = some r12_0 ∧ impl_DecodeTable.f r12_0 = some (r13_0, r2_1) ∧ laws_eqInodeS.f r13_0 r2_0 = some true ∧ laws_heldInodeS.f r10_k0 1 = some r10_0 ∧ ¬ (r8_0 < 0) ∧ ¬ (r10_0 < 0) ∧ ¬ (r10_0 < 0))))
def laws_FnExactDecodeTable.Pure : Prop := ∀ (l0 : List Int), (l0.length ≤ maxLen ∧ ∀ q135 ∈ l0, (Lit.int .u8 q135).wf = true) → laws_FnExactDecodeTable.Facts l0
set_option maxHeartbeats 8000000 in
set_option maxRecDepth 100000 in
theorem laws_FnExactDecodeTable.calls (A0 : Option Addr) (c0 : Nat) (l0 : List Int) (w : World) (hr0 : Kd.C (Kd.int .u8) w A0 l0.length l0) (hc0 : l0.length ≤ c0) (hf : laws_FnExactDecodeTable.Facts l0) :
    Calls Try.prog 8 #[.slice A0 l0.length c0] w fun e w' => e = .returned (.bool true) ∧ Below w.heap.size w w' := by
  have HR0 := Aside0.mk hr0; have HC0 := Aside0.mk hc0; clear hr0 hc0
  unfold laws_FnExactDecodeTable.Facts at hf
  have HB0 : Aside0 (Below w.heap.size w w) := ⟨Below.refl _ _⟩
  obtain ⟨s0, Sz0⟩ : ∃ s0, Aside0 (w.heap.size = s0) := ⟨_, ⟨rfl⟩⟩
  have hw0 : w.heap.size ≤ s0 := Nat.le_of_eq Sz0.out
  have hw1 : s0 ≤ w.heap.size := Nat.le_of_eq Sz0.out.symm
  obtain ⟨k, hf⟩ := hf
  by_cases g0_ : (l0.length : Int) > 1048576
  · clear hf
    (try (have g0__0 : decide (1048576 < (l0.length : Int)) = true := decide_eq_true g0_))
    (try (have g0__1 : decide (1048576 < l0.length) = true := decide_eq_true (by omega)))
    go_enter Try.func8, Try.ntmps8
    go_wp2
    go_ret
    exact ⟨rfl, HB0.out⟩
  replace hf := hf g0_
  (try (have g0__0 : decide (1048576 < (l0.length : Int)) = false := decide_eq_false g0_))
  (try (have g0__1 : decide (1048576 < l0.length) = false := decide_eq_false (by omega)))
  have G0_ := Aside0.mk g0_
  clear g0_
  obtain ⟨r1_0, r2_0, r2_1, r3_0, r4_0, r6_0, r8_0, r8_k0, r10_0, r10_k0, r12_0, r13_0, eE1_, eE2_, eE3_, eE4_, eE5_, eE6_, eE7_, eE8_, eE9_, eE10_, eE11_, eE12_, eE13_, eE14_, eE15_, h1_0_, h1_1_, h1_2_⟩ := hf
  have E1 := Aside0.mk eE1_
  clear eE1_
  have E2 := Aside0.mk eE2_
  clear eE2_
  have E3 := Aside0.mk eE3_
  clear eE3_
  have E4 := Aside0.mk eE4_
  clear eE4_
  have E5 := Aside0.mk eE5_
  clear eE5_
  have E6 := Aside0.mk eE6_
  clear eE6_
  have E7 := Aside0.mk eE7_
  clear eE7_
  have E8 := Aside0.mk eE8_
  clear eE8_
  have E9 := Aside0.mk eE9_
  clear eE9_
  have E10 := Aside0.mk eE10_
  clear eE10_
  have E11 := Aside0.mk eE11_
  clear eE11_
  have E12 := Aside0.mk eE12_
  clear eE12_
  have E13 := Aside0.mk eE13_
  clear eE13_
  have E14 := Aside0.mk eE14_
  clear eE14_
  have E15 := Aside0.mk eE15_
  clear eE15_
  (try (have h1_0__0 : decide (r8_0 < 0) = false := decide_eq_false h1_0_))
  (try (have h1_1__0 : decide (r10_0 < 0) = false := decide_eq_false h1_1_))
  (try (have h1_2__0 : decide (r10_0 < 0) = false := decide_eq_false h1_2_))
  go_enter Try.func8, Try.ntmps8
  go_wp2_with (first | ((with_reducible refine gate_dst (N := 18) rfl ?_); refine goesL_ (some 18) rfl rfl Try.func18 (by kernel_rfl) rfl #[.slice A0 l0.length c0] rfl (by (try simp only [List.map_toArray, List.map_cons, List.map_nil]); first | done | rfl) ?_; refine (laws_toByteS.calls _ _ _ _ _ _ (Kd.C_below HR0.out HB0.out) HC0.out E1.out).mono ?_; rintro e_ w1 ⟨v0_, rfl, R1_0, b1⟩; obtain ⟨A1_0, c1_0, rfl⟩ := Kd.R_slice R1_0; refine ⟨_, rfl, ?_⟩; obtain ⟨s1, L1, Sz1⟩ := size_letter Sz0 (kept_below b1); have O1_0_1 := own_btw R1_0 Sz0.out Sz1 HB0.out.size; clear R1_0; have K0 := kept_below b1; have HB1 := Aside0.mk (below_then HB0.out HB0.out.size b1); clear b1; clear K0 HB0) | ((with_reducible refine gate_dst (N := 19) rfl ?_); refine goesL_ (some 19) rfl rfl Try.func33 (by kernel_rfl) rfl #[.slice A1_0 r1_0.length c1_0] rfl (by (try simp only [List.map_toArray, List.map_cons, List.map_nil]); first | done | rfl) ?_; refine (spec_DecodeTable.calls _ _ _ _ _ _ (Kd.R_reads' O1_0_1.out).2.2 (Kd.R_reads' O1_0_1.out).2.1 E2.out).mono ?_; rintro e_ w2 ⟨v0_, rfl, R2_0, b2⟩; obtain ⟨A2_0, c2_0, rfl⟩ := Kd.R_slice R2_0; refine ⟨_, rfl, ?_⟩; obtain ⟨s2, L2, Sz2⟩ := size_letter Sz1 (kept_below b2); have O2_0_2 := own_btw R2_0 Sz1.out Sz2 HB1.out.size; clear R2_0; have K1 := kept_below b2; have HB2 := Aside0.mk (below_then HB1.out HB1.out.size b2); have O1_0_2 := Aside0.mk (Kd.R_kept O1_0_1.out K1 (fun _ _ h_ => h_)); clear b2; clear K1 HB1 O1_0_1) | ((with_reducible refine gate_dst (N := 23) rfl ?_); refine goesL_ (some 23) rfl rfl Try.func18 (by kernel_rfl) rfl #[.slice A0 l0.length c0] rfl (by (try simp only [List.map_toArray, List.map_cons, List.map_nil]); first | done | rfl) ?_; refine (laws_toByteS.calls _ _ _ _ _ _ (Kd.C_below HR0.out HB2.out) HC0.out E3.out).mono ?_; rintro e_ w3 ⟨v0_, rfl, R3_0, b3⟩; obtain ⟨A3_0, c3_0, rfl⟩ := Kd.R_slice R3_0; refine ⟨_, rfl, ?_⟩; obtain ⟨s3, L3, Sz3⟩ := size_letter Sz2 (kept_below b3); have O3_0_3 := own_btw R3_0 Sz2.out Sz3 HB2.out.size; clear R3_0; have K2 := kept_below b3; have HB3 := Aside0.mk (below_then HB2.out HB2.out.size b3); have O1_0_3 := Aside0.mk (Kd.R_kept O1_0_2.out K2 (fun _ _ h_ => h_)); have O2_0_3 := Aside0.mk (Kd.R_kept O2_0_2.out K2 (fun _ _ h_ => h_)); clear b3; clear K2 HB2 O1_0_2 O2_0_2) | ((with_reducible refine gate_dst (N := 26) rfl ?_); refine goesL_ (some 26) rfl rfl Try.func34 (by kernel_rfl) rfl #[.slice A3_0 r3_0.length c3_0] rfl (by (try simp only [List.map_toArray, List.map_cons, List.map_nil]); first | done | rfl) ?_; refine (impl_DecodeTable.calls _ _ _ _ _ _ (Kd.R_reads' O3_0_3.out).2.2 (Kd.R_reads' O3_0_3.out).2.1 E4.out).mono ?_; rintro e_ w4 ⟨v0_, rfl, R4_0, b4⟩; obtain ⟨A4_0, c4_0, rfl⟩ := Kd.R_slice R4_0; refine ⟨_, rfl, ?_⟩; obtain ⟨s4, L4, Sz4⟩ := size_letter Sz3 (kept_below b4); have O4_0_4 := own_btw R4_0 Sz3.out Sz4 HB3.out.size; clear R4_0; have K3 := kept_below b4; have HB4 := Aside0.mk (below_then HB3.out HB3.out.size b4); have O1_0_4 := Aside0.mk (Kd.R_kept O1_0_3.out K3 (fun _ _ h_ => h_)); have O2_0_4 := Aside0.mk (Kd.R_kept O2_0_3.out K3 (fun _ _ h_ => h_)); have O3_0_4 := Aside0.mk (Kd.R_kept O3_0_3.out K3 (fun _ _ h_ => h_)); clear b4; clear K3 HB3 O1_0_3 O2_0_3 O3_0_3) | ((with_reducible refine gate_dst (N := 31) rfl ?_); refine goesL_ (some 31) rfl rfl Try.func31 (by kernel_rfl) rfl #[.slice A4_0 r4_0.length c4_0, .slice A2_0 r2_0.length c2_0] rfl (by (try simp only [List.map_toArray, List.map_cons, List.map_nil]); first | done | rfl) ?_; refine (laws_eqInodeS.calls _ _ _ _ _ _ _ _ (Kd.R_reads' O4_0_4.out).2.2 (Kd.R_reads' O4_0_4.out).2.1 (Kd.R_reads' O2_0_4.out).2.2 (Kd.R_reads' O2_0_4.out).2.1 E5.out).mono ?_; rintro e_ w5 ⟨rfl, b5⟩; refine ⟨_, rfl, ?_⟩; obtain ⟨s5, L5, Sz5⟩ := size_letter Sz4 (kept_below b5); have K4 := kept_below b5; have HB5 := Aside0.mk (below_then HB4.out HB4.out.size b5); have O1_0_5 := Aside0.mk (Kd.R_kept O1_0_4.out K4 (fun _ _ h_ => h_)); have O2_0_5 := Aside0.mk (Kd.R_kept O2_0_4.out K4 (fun _ _ h_ => h_)); have O3_0_5 := Aside0.mk (Kd.R_kept O3_0_4.out K4 (fun _ _ h_ => h_)); have O4_0_5 := Aside0.mk (Kd.R_kept O4_0_4.out K4 (fun _ _ h_ => h_)); clear b5; clear K4 HB4 O1_0_4 O2_0_4 O3_0_4 O4_0_4) | ((with_reducible refine gate_dst (N := 40) rfl ?_); refine goesL_ (some 40) rfl rfl Try.func18 (by kernel_rfl) rfl #[.slice A0 l0.length c0] rfl (by (try simp only [List.map_toArray, List.map_cons, List.map_nil]); first | done | rfl) ?_; refine (laws_toByteS.calls _ _ _ _ _ _ (Kd.C_below HR0.out HB5.out) HC0.out E6.out).mono ?_; rintro e_ w6 ⟨v0_, rfl, R6_0, b6⟩; obtain ⟨A6_0, c6_0, rfl⟩ := Kd.R_slice R6_0; refine ⟨_, rfl, ?_⟩; obtain ⟨s6, L6, Sz6⟩ := size_letter Sz5 (kept_below b6); have O6_0_6 := own_btw R6_0 Sz5.out Sz6 HB5.out.size; clear R6_0; have K5 := kept_below b6; have HB6 := Aside0.mk (below_then HB5.out HB5.out.size b6); have O1_0_6 := Aside0.mk (Kd.R_kept O1_0_5.out K5 (fun _ _ h_ => h_)); have O2_0_6 := Aside0.mk (Kd.R_kept O2_0_5.out K5 (fun _ _ h_ => h_)); have O3_0_6 := Aside0.mk (Kd.R_kept O3_0_5.out K5 (fun _ _ h_ => h_)); have O4_0_6 := Aside0.mk (Kd.R_kept O4_0_5.out K5 (fun _ _ h_ => h_)); clear b6; clear K5 HB5 O1_0_5 O2_0_5 O3_0_5 O4_0_5) | ((with_reducible refine gate_dst (N := 41) rfl ?_); refine goesL_ (some 41) rfl rfl Try.func14 (by kernel_rfl) rfl #[.slice A3_0 r3_0.length c3_0, .slice A6_0 r6_0.length c6_0] rfl (by (try simp only [List.map_toArray, List.map_cons, List.map_nil]); first | done | rfl) ?_; refine (laws_eqByteS.calls _ _ _ _ _ _ _ _ _ (Kd.R_reads' O3_0_6.out).2.2 (Kd.R_reads' O3_0_6.out).2.1 (Kd.R_reads' O6_0_6.out).2.2 (Kd.R_reads' O6_0_6.out).2.1 E7.out).mono ?_; rintro e_ w7 ⟨rfl, b_⟩; have b7 := kept_drawn b_; refine ⟨_, rfl, ?_⟩; obtain ⟨s7, L7, Sz7⟩ := size_letter Sz6 (kept_below b7); have K6 := kept_below b7; have HB7 := Aside0.mk (below_then HB6.out HB6.out.size b7); have O1_0_7 := Aside0.mk (Kd.R_kept O1_0_6.out K6 (fun _ _ h_ => h_)); have O2_0_7 := Aside0.mk (Kd.R_kept O2_0_6.out K6 (fun _ _ h_ => h_)); have O3_0_7 := Aside0.mk (Kd.R_kept O3_0_6.out K6 (fun _ _ h_ => h_)); have O4_0_7 := Aside0.mk (Kd.R_kept O4_0_6.out K6 (fun _ _ h_ => h_)); have O6_0_7 := Aside0.mk (Kd.R_kept O6_0_6.out K6 (fun _ _ h_ => h_)); clear b7; clear K6 HB6 O1_0_6 O2_0_6 O3_0_6 O4_0_6 O6_0_6) | ((with_reducible refine gate_dst (N := 45) rfl ?_); refine goesL_ (some 45) rfl rfl Try.func15 (by kernel_rfl) rfl #[.slice A3_0 r3_0.length c3_0, .int .i64 1] rfl (by (try simp only [List.map_toArray, List.map_cons, List.map_nil]); first | done | rfl) ?_; refine (laws_markByteS.calls _ _ _ _ _ _ _ _ _ HB7.out O3_0_7.out E8.out).mono ?_; rintro e_ w8 ⟨rfl, R8_0, hb_, kp_⟩; refine ⟨_, rfl, ?_⟩; have K7 := Kept.mono kp_ (fun k_ hk_ => hk_); have HB8 := Aside0.mk hb_; obtain ⟨s8, L8, Sz8⟩ := size_letter Sz7 K7; have O3_0_8 := own_same R8_0 O3_0_7.out rfl; clear R8_0 kp_ hb_; have O1_0_8 := Aside0.mk (Kd.R_kept O1_0_7.out K7 (fun k_ hk_ h_ => by have h1_ := hk_.1; have h2_ := hk_.2; have h3_ := h_.1; have h4_ := h_.2; omega)); have O2_0_8 := Aside0.mk (Kd.R_kept O2_0_7.out K7 (fun k_ hk_ h_ => by have h1_ := hk_.1; have h2_ := hk_.2; have h3_ := h_.1; have h4_ := h_.2; omega)); have O4_0_8 := Aside0.mk (Kd.R_kept O4_0_7.out K7 (fun k_ hk_ h_ => by have h1_ := hk_.1; have h2_ := hk_.2; have h3_ := h_.1; have h4_ := h_.2; omega)); have O6_0_8 := Aside0.mk (Kd.R_kept O6_0_7.out K7 (fun k_ hk_ h_ => by have h1_ := hk_.1; have h2_ := hk_.2; have h3_ := h_.1; have h4_ := h_.2; omega)); clear K7 HB7 O1_0_7 O2_0_7 O4_0_7 O6_0_7; clear O3_0_7) | ((with_reducible refine gate_dst (N := 51) rfl ?_); refine Go.Proofs.YtkghgjehjchajaaW.PrintTab2.ungd (by rfl) ?_; refine goesL_ (some 51) rfl rfl Try.func31 (by kernel_rfl) rfl #[.slice A4_0 r4_0.length c4_0, .slice A2_0 r2_0.length c2_0] rfl (by (try simp only [List.map_toArray, List.map_cons, List.map_nil]); first | done | rfl) ?_; refine (laws_eqInodeS.calls _ _ _ _ _ _ _ _ (Kd.R_reads' O4_0_8.out).2.2 (Kd.R_reads' O4_0_8.out).2.1 (Kd.R_reads' O2_0_8.out).2.2 (Kd.R_reads' O2_0_8.out).2.1 E9.out).mono ?_; rintro e_ w9 ⟨rfl, b9⟩; refine ⟨_, rfl, ?_⟩; obtain ⟨s9, L9, Sz9⟩ := size_letter Sz8 (kept_below b9); have K8 := kept_below b9; have HB9 := Aside0.mk (below_then HB8.out HB8.out.size b9); have O1_0_9 := Aside0.mk (Kd.R_kept O1_0_8.out K8 (fun _ _ h_ => h_)); have O2_0_9 := Aside0.mk (Kd.R_kept O2_0_8.out K8 (fun _ _ h_ => h_)); have O3_0_9 := Aside0.mk (Kd.R_kept O3_0_8.out K8 (fun _ _ h_ => h_)); have O4_0_9 := Aside0.mk (Kd.R_kept O4_0_8.out K8 (fun _ _ h_ => h_)); have O6_0_9 := Aside0.mk (Kd.R_kept O6_0_8.out K8 (fun _ _ h_ => h_)); clear b9; clear K8 HB8 O1_0_8 O2_0_8 O3_0_8 O4_0_8 O6_0_8) | ((with_reducible refine gate_dst (N := 61) rfl ?_); refine goesL_ (some 61) rfl rfl Try.func32 (by kernel_rfl) rfl #[.slice A4_0 r4_0.length c4_0, .int .i64 1] rfl (by (try simp only [List.map_toArray, List.map_cons, List.map_nil]); first | done | rfl) ?_; refine (laws_markInodeS.calls _ _ _ _ _ _ _ _ HB9.out O4_0_9.out E10.out).mono ?_; rintro e_ w10 ⟨rfl, R10_0, hb_, kp_⟩; refine ⟨_, rfl, ?_⟩; have K9 := Kept.mono kp_ (fun k_ hk_ => hk_); have HB10 := Aside0.mk hb_; obtain ⟨s10, L10, Sz10⟩ := size_letter Sz9 K9; have O4_0_10 := own_same R10_0 O4_0_9.out rfl; clear R10_0 kp_ hb_; have O1_0_10 := Aside0.mk (Kd.R_kept O1_0_9.out K9 (fun k_ hk_ h_ => by have h1_ := hk_.1; have h2_ := hk_.2; have h3_ := h_.1; have h4_ := h_.2; omega)); have O2_0_10 := Aside0.mk (Kd.R_kept O2_0_9.out K9 (fun k_ hk_ h_ => by have h1_ := hk_.1; have h2_ := hk_.2; have h3_ := h_.1; have h4_ := h_.2; omega)); have O3_0_10 := Aside0.mk (Kd.R_kept O3_0_9.out K9 (fun k_ hk_ h_ => by have h1_ := hk_.1; have h2_ := hk_.2; have h3_ := h_.1; have h4_ := h_.2; omega)); have O6_0_10 := Aside0.mk (Kd.R_kept O6_0_9.out K9 (fun k_ hk_ h_ => by have h1_ := hk_.1; have h2_ := hk_.2; have h3_ := h_.1; have h4_ := h_.2; omega)); clear K9 HB9 O1_0_9 O2_0_9 O3_0_9 O6_0_9; clear O4_0_9) | ((with_reducible refine gate_dst (N := 64) rfl ?_); refine goesL_ (some 64) rfl rfl Try.func35 (by kernel_rfl) rfl #[.slice A4_0 r4_0.length c4_0, .int .i64 1] rfl (by (try simp only [List.map_toArray, List.map_cons, List.map_nil]); first | done | rfl) ?_; refine calls_of_args (args' := #[.slice A4_0 r10_k0.length c4_0, .int .i64 1]) (by rw [(Kd.R_reads' O4_0_10.out).1]) ?_; refine (laws_heldInodeS.calls _ _ _ _ _ _ (Kd.R_reads' O4_0_10.out).2.2 (by have h_ := Kd.R_reads' O4_0_10.out; rw [← h_.1]; exact h_.2.1) E11.out).mono ?_; rintro e_ w11 ⟨rfl, b11⟩; refine ⟨_, rfl, ?_⟩; obtain ⟨s11, L11, Sz11⟩ := size_letter Sz10 (kept_below b11); have K10 := kept_below b11; have HB11 := Aside0.mk (below_then HB10.out HB10.out.size b11); have O1_0_11 := Aside0.mk (Kd.R_kept O1_0_10.out K10 (fun _ _ h_ => h_)); have O2_0_11 := Aside0.mk (Kd.R_kept O2_0_10.out K10 (fun _ _ h_ => h_)); have O3_0_11 := Aside0.mk (Kd.R_kept O3_0_10.out K10 (fun _ _ h_ => h_)); have O4_0_11 := Aside0.mk (Kd.R_kept O4_0_10.out K10 (fun _ _ h_ => h_)); have O6_0_11 := Aside0.mk (Kd.R_kept O6_0_10.out K10 (fun _ _ h_ => h_)); clear b11; clear K10 HB10 O1_0_10 O2_0_10 O3_0_10 O4_0_10 O6_0_10) | ((with_reducible refine gate_dst (N := 72) rfl ?_); refine goesL_ (some 72) rfl rfl Try.func18 (by kernel_rfl) rfl #[.slice A0 l0.length c0] rfl (by (try simp only [List.map_toArray, List.map_cons, List.map_nil]); first | done | rfl) ?_; refine (laws_toByteS.calls _ _ _ _ _ _ (Kd.C_below HR0.out HB11.out) HC0.out E12.out).mono ?_; rintro e_ w12 ⟨v0_, rfl, R12_0, b12⟩; obtain ⟨A12_0, c12_0, rfl⟩ := Kd.R_slice R12_0; refine ⟨_, rfl, ?_⟩; obtain ⟨s12, L12, Sz12⟩ := size_letter Sz11 (kept_below b12); have O12_0_12 := own_btw R12_0 Sz11.out Sz12 HB11.out.size; clear R12_0; have K11 := kept_below b12; have HB12 := Aside0.mk (below_then HB11.out HB11.out.size b12); have O1_0_12 := Aside0.mk (Kd.R_kept O1_0_11.out K11 (fun _ _ h_ => h_)); have O2_0_12 := Aside0.mk (Kd.R_kept O2_0_11.out K11 (fun _ _ h_ => h_)); have O3_0_12 := Aside0.mk (Kd.R_kept O3_0_11.out K11 (fun _ _ h_ => h_)); have O4_0_12 := Aside0.mk (Kd.R_kept O4_0_11.out K11 (fun _ _ h_ => h_)); have O6_0_12 := Aside0.mk (Kd.R_kept O6_0_11.out K11 (fun _ _ h_ => h_)); clear b12; clear K11 HB11 O1_0_11 O2_0_11 O3_0_11 O4_0_11 O6_0_11) | ((with_reducible refine gate_dst (N := 73) rfl ?_); refine goesL_ (some 73) rfl rfl Try.func34 (by kernel_rfl) rfl #[.slice A12_0 r12_0.length c12_0] rfl (by (try simp only [List.map_toArray, List.map_cons, List.map_nil]); first | done | rfl) ?_; refine (impl_DecodeTable.calls _ _ _ _ _ _ (Kd.R_reads' O12_0_12.out).2.2 (Kd.R_reads' O12_0_12.out).2.1 E13.out).mono ?_; rintro e_ w13 ⟨v0_, rfl, R13_0, b13⟩; obtain ⟨A13_0, c13_0, rfl⟩ := Kd.R_slice R13_0; refine ⟨_, rfl, ?_⟩; obtain ⟨s13, L13, Sz13⟩ := size_letter Sz12 (kept_below b13); have O13_0_13 := own_btw R13_0 Sz12.out Sz13 HB12.out.size; clear R13_0; have K12 := kept_below b13; have HB13 := Aside0.mk (below_then HB12.out HB12.out.size b13); have O1_0_13 := Aside0.mk (Kd.R_kept O1_0_12.out K12 (fun _ _ h_ => h_)); have O2_0_13 := Aside0.mk (Kd.R_kept O2_0_12.out K12 (fun _ _ h_ => h_)); have O3_0_13 := Aside0.mk (Kd.R_kept O3_0_12.out K12 (fun _ _ h_ => h_)); have O4_0_13 := Aside0.mk (Kd.R_kept O4_0_12.out K12 (fun _ _ h_ => h_)); have O6_0_13 := Aside0.mk (Kd.R_kept O6_0_12.out K12 (fun _ _ h_ => h_)); have O12_0_13 := Aside0.mk (Kd.R_kept O12_0_12.out K12 (fun _ _ h_ => h_)); clear b13; clear K12 HB12 O1_0_12 O2_0_12 O3_0_12 O4_0_12 O6_0_12 O12_0_12) | ((with_reducible refine gate_dst (N := 78) rfl ?_); refine goesL_ (some 78) rfl rfl Try.func31 (by kernel_rfl) rfl #[.slice A13_0 r13_0.length c13_0, .slice A2_0 r2_0.length c2_0] rfl (by (try simp only [List.map_toArray, List.map_cons, List.map_nil]); first | done | rfl) ?_; refine (laws_eqInodeS.calls _ _ _ _ _ _ _ _ (Kd.R_reads' O13_0_13.out).2.2 (Kd.R_reads' O13_0_13.out).2.1 (Kd.R_reads' O2_0_13.out).2.2 (Kd.R_reads' O2_0_13.out).2.1 E14.out).mono ?_; rintro e_ w14 ⟨rfl, b14⟩; refine ⟨_, rfl, ?_⟩; obtain ⟨s14, L14, Sz14⟩ := size_letter Sz13 (kept_below b14); have K13 := kept_below b14; have HB14 := Aside0.mk (below_then HB13.out HB13.out.size b14); have O1_0_14 := Aside0.mk (Kd.R_kept O1_0_13.out K13 (fun _ _ h_ => h_)); have O2_0_14 := Aside0.mk (Kd.R_kept O2_0_13.out K13 (fun _ _ h_ => h_)); have O3_0_14 := Aside0.mk (Kd.R_kept O3_0_13.out K13 (fun _ _ h_ => h_)); have O4_0_14 := Aside0.mk (Kd.R_kept O4_0_13.out K13 (fun _ _ h_ => h_)); have O6_0_14 := Aside0.mk (Kd.R_kept O6_0_13.out K13 (fun _ _ h_ => h_)); have O12_0_14 := Aside0.mk (Kd.R_kept O12_0_13.out K13 (fun _ _ h_ => h_)); have O13_0_14 := Aside0.mk (Kd.R_kept O13_0_13.out K13 (fun _ _ h_ => h_)); clear b14; clear K13 HB13 O1_0_13 O2_0_13 O3_0_13 O4_0_13 O6_0_13 O12_0_13 O13_0_13) | ((with_reducible refine gate_dst (N := 87) rfl ?_); refine goesL_ (some 87) rfl rfl Try.func35 (by kernel_rfl) rfl #[.slice A4_0 r4_0.length c4_0, .int .i64 1] rfl (by (try simp only [List.map_toArray, List.map_cons, List.map_nil]); first | done | rfl) ?_; refine calls_of_args (args' := #[.slice A4_0 r10_k0.length c4_0, .int .i64 1]) (by rw [(Kd.R_reads' O4_0_14.out).1]) ?_; refine (laws_heldInodeS.calls _ _ _ _ _ _ (Kd.R_reads' O4_0_14.out).2.2 (by have h_ := Kd.R_reads' O4_0_14.out; rw [← h_.1]; exact h_.2.1) E15.out).mono ?_; rintro e_ w15 ⟨rfl, b15⟩; refine ⟨_, rfl, ?_⟩; obtain ⟨s15, L15, Sz15⟩ := size_letter Sz14 (kept_below b15); have K14 := kept_below b15; have HB15 := Aside0.mk (below_then HB14.out HB14.out.size b15); have O1_0_15 := Aside0.mk (Kd.R_kept O1_0_14.out K14 (fun _ _ h_ => h_)); have O2_0_15 := Aside0.mk (Kd.R_kept O2_0_14.out K14 (fun _ _ h_ => h_)); have O3_0_15 := Aside0.mk (Kd.R_kept O3_0_14.out K14 (fun _ _ h_ => h_)); have O4_0_15 := Aside0.mk (Kd.R_kept O4_0_14.out K14 (fun _ _ h_ => h_)); have O6_0_15 := Aside0.mk (Kd.R_kept O6_0_14.out K14 (fun _ _ h_ => h_)); have O12_0_15 := Aside0.mk (Kd.R_kept O12_0_14.out K14 (fun _ _ h_ => h_)); have O13_0_15 := Aside0.mk (Kd.R_kept O13_0_14.out K14 (fun _ _ h_ => h_)); clear b15; clear K14 HB14 O1_0_14 O2_0_14 O3_0_14 O4_0_14 O6_0_14 O12_0_14 O13_0_14))
  go_ret
  exact ⟨rfl, HB15.out⟩

end Go.Proofs.Ytkghgjehjchajaa.PFnExactDecodeTable
