/- FnFree: the law answers true. -/
import Derived.Test.YtjhaofdnlnbajaaFrp
namespace Go.Proofs.Ytjhaofdnlnbajaa.PureFree
open Go.RowKit Go.Proofs.YtjhaofdnlnbajaaW.PrintWords Go.Proofs.YtjhaofdnlnbajaaW.PrintLast Go.Proofs.YtjhaofdnlnbajaaW.PrintMore Go.Proofs.YtjhaofdnlnbajaaW Go.Proofs.YtjhaofdnlnbajaaW.PrintHand Go.Proofs.YtjhaofdnlnbajaaW.PrintHx Go.Proofs.Ytjhaofdnlnbajaa.PFnFree
set_option linter.unusedVariables false
set_option linter.unusedSimpArgs false
/-- the law answers true -/
theorem fnFree_calls (A0 : Option Addr) (c0 : Nat) (l0 : List Int) (w : World) (hr0 : Kd.C (Kd.int .u8) w A0 l0.length l0) (hc0 : l0.length ≤ c0) (h0 : ¬ (l0.length : Int) > 1048576) :
    Calls Try.prog 14 #[.slice A0 l0.length c0] w fun e w' => e = .returned (.bool true) ∧ Below w.heap.size w w' := by
  have hb : l0.length ≤ 1048576 := by omega
  obtain ⟨k, hk⟩ : ∃ k : Nat, 1100000 < k := ⟨1200000, by omega⟩
  obtain ⟨q0, hq0⟩ : ∃ q0, q0 = IntKind.u64.wrap (88172645463325252 + (IntKind.u64.wrap ((l0.length : Int)))) := ⟨_, rfl⟩
  have f1 : spec_L01Draw.f l0 = some (l0, 0, q0) := by rw [hq0]; rfl
  obtain ⟨n1, p1, q1, f2, b1, i1⟩ := src_N l0 hb 0 q0 150 (by omega) (by omega) (by omega)
  obtain ⟨m1, rfl⟩ := Int.eq_ofNat_of_zero_le b1.1
  have hw1 : Aside0 (wrap64 (64 + (m1 : Int)) = ((64 + m1 : Nat) : Int)) := ⟨by rw [w64 (by omega) (by omega)]; omega⟩
  obtain ⟨T, p2, q2, f3, hT, hlT, i2⟩ := draw_f l0 hb (64 + m1) (by omega) (by omega) p1 q1 i1 k (by omega)
  have hL : (1 :: 1 :: T : List Int).length = 64 + m1 := by simp; omega
  have hL2 : (1 :: 1 :: T : List Int).length ≤ 2048 := by omega
  have hw2 : Aside0 (wrap64 (((1 :: 1 :: T : List Int).length : Int) - 2) = ((62 + m1 : Nat) : Int)) := ⟨by rw [w64 (by omega) (by omega)]; omega⟩
  obtain ⟨n2, p3, q3, f4, b4, i3⟩ := src_N l0 hb p2 q2 ((62 + m1 : Nat) : Int) i2 (by omega) (by omega)
  obtain ⟨c, rfl⟩ := Int.eq_ofNat_of_zero_le b4.1
  have hw3 : Aside0 (wrap64 (2 + (c : Int)) = ((c + 2 : Nat) : Int)) := ⟨by rw [w64 (by omega) (by omega)]; omega⟩
  obtain ⟨zc, hz⟩ : ∃ zc, zc = (1 :: 1 :: T : List Int).countP isz := ⟨_, rfl⟩
  obtain ⟨nc, hnc⟩ : ∃ nc, nc = (1 :: 1 :: T : List Int).countP nz := ⟨_, rfl⟩
  obtain ⟨nx, f6, x1, x2⟩ := free_all hT (c + 2) (by omega) (by omega) zc hz
  have f7 := free_more hT (c + 2) (by omega) (by omega) zc hz
  obtain ⟨pl, p4, q4, f8, b8, i4⟩ := src_N l0 hb p3 q3 32 i3 (by omega) (by omega)
  obtain ⟨p, rfl⟩ := Int.eq_ofNat_of_zero_le b8.1
  have hp : p ≤ 31 := by omega
  have hct : (1 :: 1 :: T : List Int).countP isz + (1 :: 1 :: T : List Int).countP nz = (1 :: 1 :: T : List Int).length := cp_two _
  rw [← hz, ← hnc] at hct
  have hFl := FN_len (T := T) (c + 2) (by omega) (by omega)
  rw [← hz] at hFl
  have hle : (1 :: 1 :: T : List Int).countP isz ≤ (1 :: 1 :: T : List Int).length := List.countP_le_length
  rw [← hz] at hle
  have hg1 := C0_1 _ hL2
  have hg2 := C0_2 _ hL2
  rw [← hz] at hg1
  rw [← hnc] at hg2
  have hsl := setP_len hT p (1 :: 1 :: T : List Int).length rfl
  have hsle : T.countP (bt p) ≤ T.length := List.countP_le_length
  have hT' := clrT_ok hT p hp
  have hL3 : (1 :: 1 :: clrT T p : List Int).length = (1 :: 1 :: T : List Int).length := by simp [clrT]
  refine laws_FnFree.walk k A0 c0 l0 w hr0 hc0 h0 0 q0 p1 q1 p2 q2 p3 q3 (m1 : Int) (c : Int) (1 :: 1 :: T) (C0 (1 :: 1 :: T)) f1 f2 (by rw [hw1.out]; exact f3) ⟨by omega, by omega⟩ (by rw [hw2.out]; exact f4) (count_f hT _ (by omega)) (C0_len _)
    (zc : Int) (nc : Int) hg1 hg2
    ((FN (1 :: 1 :: T) (c + 2)).map (fun b : Nat => (b : Int))) [] nx 0 (by rw [hw3.out]; exact f6) (by rw [hw3.out]; exact f7)
    (by rw [List.length_map, hFl]; exact bne_self_eq_false _) (by rw [w64 (by omega) (by omega), show (zc : Int) + (nc : Int) = (((1 :: 1 :: T : List Int).length : Nat) : Int) by omega]; exact bne_self_eq_false _)
    (decide_eq_false (by omega)) (decide_eq_false (by omega)) (p : Int) p4 q4 ⟨by omega, by omega⟩ f8 (by rw [List.length_map, hFl]; omega)
    (1 :: 1 :: clrT T p) (C0 (1 :: 1 :: clrT T p)) (setP (1 :: 1 :: T) (p : Int) (1 :: 1 :: T : List Int).length) rfl (by rw [hsl]; omega) (plane_none hT p hp _ (by omega)) hL3 (plane_back hT p hp _ (by omega) _ rfl) (count_f hT' _ (by omega)) (C0_len _)
    ((fx p : Nat) : Int) ?_ ?_ ?_ ?_
  · unfold fx
    by_cases z : p = 0
    · exact .inl ⟨by omega, by rw [if_pos z]; rfl⟩
    · exact .inr ⟨by omega, by rw [if_neg z]; rfl⟩
  · rw [Int.toNat_natCast, C0_p _ (by omega) hT'.all p hp, cp_ones p hp, clrT_none hT p hp, Nat.zero_add]
  · rw [Int.toNat_natCast, C0_p _ hL2 hT.all p hp, cp_ones p hp, hsl, w64 (by unfold fx; split <;> omega) (by unfold fx; split <;> omega)]
    omega
  · intro j hj
    have hj' : j < (FN (1 :: 1 :: T) (c + 2)).length := by simpa using hj
    have hm := FN_mem (W := 1 :: 1 :: T) (c := c + 2) (by omega) (by omega) (List.getElem_mem hj')
    refine ⟨?_, ?_, ?_, fun h0 => ?_⟩
    · rw [rd_some hj, List.getElem_map]; omega
    · rw [rd_some hj, List.getElem_map]; omega
    · rw [rd_some hj, List.getElem_map]; exact hm.2.2
    · rw [hw3.out]
      exact order_at hT (c + 2) (by omega) (by omega) j hj h0
set_option maxHeartbeats 8000000 in
set_option maxRecDepth 100000 in
theorem fnFree_big (A0 : Option Addr) (c0 : Nat) (l0 : List Int) (w : World) (h0 : (l0.length : Int) > 1048576) :
    Calls Try.prog 14 #[.slice A0 l0.length c0] w fun e w' => e = .returned (.bool true) ∧ Below w.heap.size w w' := by
  have h0a : decide (1048576 < (l0.length : Int)) = true := decide_eq_true h0
  have h0b : decide (1048576 < l0.length) = true := decide_eq_true (by omega)
  go_enter Try.func14, Try.ntmps14
  go_wp2
  go_ret
  exact ⟨rfl, Below.refl _ _⟩
theorem walk (a0 : Option Addr) (len0 cap0 : Nat) (z0 : List Int) (w : World) (w0 : (a0 = none ∧ len0 = 0 ∧ cap0 = 0 ∧ z0 = []) ∨ ∃ x, a0 = some x ∧ len0 ≤ cap0 ∧ cap0 ≤ maxLen ∧ z0.length = cap0 ∧ (∀ i, i < z0.length → w.cell? (x.add i) = some (.int .u8 (z0.getD i 0))) ∧ ∀ n ∈ z0, (Lit.int .u8 n).wf = true) :
    Calls Try.prog 14 #[.slice a0 len0 cap0] w fun e w' => e = .returned (.bool true) ∧ Below w.heap.size w w' := by
  obtain ⟨l0, rfl, hr0, hm0, hw0, hc0⟩ := ReadsInt.ofRowC w0
  by_cases h : (l0.length : Int) > 1048576
  · exact fnFree_big _ _ l0 w h
  · exact fnFree_calls _ _ l0 w (Kd.C_of_reads (d := (0 : Int)) (h1 := fun _ => rfl) hr0) hc0 h
end Go.Proofs.Ytjhaofdnlnbajaa.PureFree
