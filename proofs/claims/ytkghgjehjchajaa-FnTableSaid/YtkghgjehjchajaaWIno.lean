/- What a right inode is, and its bytes. No condition. -/
import Derived.Test.YtkghgjehjchajaaWLe
namespace Go.Proofs.YtkghgjehjchajaaW.PrintIno
open Go.RowKit Go.Proofs.YtkghgjehjchajaaW.PrintWords Go.Proofs.YtkghgjehjchajaaW.PrintHand Go.Proofs.YtkghgjehjchajaaW.PrintHx Go.Proofs.YtkghgjehjchajaaW.PrintLe
set_option linter.unusedVariables false
set_option linter.unusedSimpArgs false
def rng (x lo hi : Int) : Bool := decide (lo ≤ x ∧ x ≤ hi)
def parentOk (k p : Int) : Bool := if k = 2 then rng p 1 1000 else decide (p = 0)
def inodeOk (x0 x1 x2 x3 x4 x5 x6 x7 x8 : Int) (xr : List Int) : Bool := rng x0 1 3 && (rng x1 1 1000 && (rng x2 0 4095 && (rng x3 0 65535 && (rng x4 0 65535 && (parentOk x0 x5 && (rng x6 1 1099511627776 && (rng x7 1 1099511627776 && (rng x8 1 1099511627776 && rootGood xr))))))))
def inodeGood (a : List Int) : Bool := decide (a = List.replicate 24 0) || inodeOk (a.getD 0 0) (a.getD 1 0) (a.getD 2 0) (a.getD 3 0) (a.getD 4 0) (a.getD 5 0) (a.getD 6 0) (a.getD 7 0) (a.getD 8 0) (seg a 9 15)
def inoParts (a : List Int) : List (List Int) := [leB (a.getD 0 0) 2, leB (a.getD 1 0) 2, leB (a.getD 2 0) 2, leB (a.getD 3 0) 2, leB (a.getD 4 0) 2, leB 0 2, leB (a.getD 5 0) 4, leB (a.getD 6 0) 8, leB (a.getD 7 0) 8, leB (a.getD 8 0) 8, rootBytes (seg a 9 15)]
def inodeBytes (a : List Int) : List Int := (inoParts a).flatten ++ List.replicate 24 0
theorem rng_of {x lo hi : Int} (h : rng x lo hi = true) : lo ≤ x ∧ x ≤ hi := by simpa [rng] using h
/-- What a right inode's fields are. -/
theorem inodeGood_get {a : List Int} (h : inodeGood a = true) : (0 ≤ a.getD 0 0 ∧ a.getD 0 0 ≤ 3) ∧ (0 ≤ a.getD 1 0 ∧ a.getD 1 0 ≤ 1000) ∧ (0 ≤ a.getD 2 0 ∧ a.getD 2 0 ≤ 4095) ∧ (0 ≤ a.getD 3 0 ∧ a.getD 3 0 ≤ 65535) ∧ (0 ≤ a.getD 4 0 ∧ a.getD 4 0 ≤ 65535) ∧ (0 ≤ a.getD 5 0 ∧ a.getD 5 0 ≤ 1000) ∧ (0 ≤ a.getD 6 0 ∧ a.getD 6 0 ≤ 1099511627776) ∧ (0 ≤ a.getD 7 0 ∧ a.getD 7 0 ≤ 1099511627776) ∧ (0 ≤ a.getD 8 0 ∧ a.getD 8 0 ≤ 1099511627776) ∧ rootGood (seg a 9 15) = true := by
  unfold inodeGood at h
  rw [Bool.or_eq_true] at h
  rcases h with h | h
  · obtain rfl := of_decide_eq_true h
    refine ⟨by decide, by decide, by decide, by decide, by decide, by decide, by decide, by decide, by decide, ?_⟩
    decide
  · unfold inodeOk at h
    simp only [Bool.and_eq_true] at h
    obtain ⟨h0, h1, h2, h3, h4, h5, h6, h7, h8, h9⟩ := h
    have p5 : 0 ≤ a.getD 5 0 ∧ a.getD 5 0 ≤ 1000 := by
      unfold parentOk at h5
      split at h5
      · have := rng_of h5; omega
      · have := of_decide_eq_true h5; omega
    have q0 := rng_of h0
    have q1 := rng_of h1
    have q6 := rng_of h6
    have q7 := rng_of h7
    have q8 := rng_of h8
    exact ⟨by omega, by omega, rng_of h2, rng_of h3, rng_of h4, p5, by omega, by omega, by omega, h9⟩
theorem inodeBytes_length {a : List Int} (h : a.length = 24) : (inodeBytes a).length = 128 := by
  have hr : (seg a 9 15).length = 15 := part_len h (by decide)
  simp [inodeBytes, inoParts, leB_length, rootBytes_length hr]
theorem seg_root {a : List Int} (h : a.length = 24) : seg a 9 15 = [a.getD 9 0, a.getD 10 0, a.getD 11 0, a.getD 12 0, a.getD 13 0, a.getD 14 0, a.getD 15 0, a.getD 16 0, a.getD 17 0, a.getD 18 0, a.getD 19 0, a.getD 20 0, a.getD 21 0, a.getD 22 0, a.getD 23 0] := by
  obtain ⟨z0, b0, rfl, h0⟩ := cons_of_len h
  obtain ⟨z1, b1, rfl, h1⟩ := cons_of_len h0
  obtain ⟨z2, b2, rfl, h2⟩ := cons_of_len h1
  obtain ⟨z3, b3, rfl, h3⟩ := cons_of_len h2
  obtain ⟨z4, b4, rfl, h4⟩ := cons_of_len h3
  obtain ⟨z5, b5, rfl, h5⟩ := cons_of_len h4
  obtain ⟨z6, b6, rfl, h6⟩ := cons_of_len h5
  obtain ⟨z7, b7, rfl, h7⟩ := cons_of_len h6
  obtain ⟨z8, b8, rfl, h8⟩ := cons_of_len h7
  obtain ⟨z9, b9, rfl, h9⟩ := cons_of_len h8
  obtain ⟨z10, b10, rfl, h10⟩ := cons_of_len h9
  obtain ⟨z11, b11, rfl, h11⟩ := cons_of_len h10
  obtain ⟨z12, b12, rfl, h12⟩ := cons_of_len h11
  obtain ⟨z13, b13, rfl, h13⟩ := cons_of_len h12
  obtain ⟨z14, b14, rfl, h14⟩ := cons_of_len h13
  obtain ⟨z15, b15, rfl, h15⟩ := cons_of_len h14
  obtain ⟨z16, b16, rfl, h16⟩ := cons_of_len h15
  obtain ⟨z17, b17, rfl, h17⟩ := cons_of_len h16
  obtain ⟨z18, b18, rfl, h18⟩ := cons_of_len h17
  obtain ⟨z19, b19, rfl, h19⟩ := cons_of_len h18
  obtain ⟨z20, b20, rfl, h20⟩ := cons_of_len h19
  obtain ⟨z21, b21, rfl, h21⟩ := cons_of_len h20
  obtain ⟨z22, b22, rfl, h22⟩ := cons_of_len h21
  obtain ⟨z23, b23, rfl, h23⟩ := cons_of_len h22
  obtain rfl := List.length_eq_zero_iff.mp h23
  rfl
theorem put_zeros (A X : List Int) (p d m at_ sz : Nat) (hA : A.length = p) (hX : X.length = sz) (hm : d + sz ≤ m) (ha : at_ = p + d) : (A ++ List.replicate m 0).take at_ ++ X ++ (A ++ List.replicate m 0).drop (at_ + sz) = (A ++ (List.replicate d 0 ++ X)) ++ List.replicate (m - d - sz) 0 := by
  subst hA
  subst ha
  subst hX
  rw [List.take_append, List.take_of_length_le (by omega), Nat.add_sub_cancel_left, List.take_replicate, Nat.min_eq_left (by omega), List.drop_append, List.drop_eq_nil_of_le (by omega), List.nil_append, List.drop_replicate, show m - (A.length + d + X.length - A.length) = m - d - X.length by omega]
  simp [List.append_assoc]
theorem leB_one {x : Int} (h : 0 ≤ x ∧ x ≤ 255) : leB x 2 = leB x 1 ++ [0] := by
  simp only [leB, List.cons_append, List.nil_append]
  rw [show x / 256 = 0 by omega]
  rfl
theorem ino_puts {x0 x1 x2 x3 x4 x5 x6 x7 x8 : Int} {R L0 L1 L2 L3 L4 L5 L6 L7 L8 L9 L10 : List Int} (hR : R.length = 64) (hx : 0 ≤ x0 ∧ x0 ≤ 255) (h0 : L0 = List.replicate 128 0) (h1 : L1 = L0.take (0 + 0) ++ leB x0 1 ++ L0.drop (0 + 0 + 1)) (h2 : L2 = L1.take (0 + 2) ++ leB x1 2 ++ L1.drop (0 + 2 + 2)) (h3 : L3 = L2.take (0 + 4) ++ leB x2 2 ++ L2.drop (0 + 4 + 2)) (h4 : L4 = L3.take (0 + 6) ++ leB x3 2 ++ L3.drop (0 + 6 + 2)) (h5 : L5 = L4.take (0 + 8) ++ leB x4 2 ++ L4.drop (0 + 8 + 2)) (h6 : L6 = L5.take (0 + 12) ++ leB x5 4 ++ L5.drop (0 + 12 + 4)) (h7 : L7 = L6.take (0 + 16) ++ leB x6 8 ++ L6.drop (0 + 16 + 8)) (h8 : L8 = L7.take (0 + 24) ++ leB x7 8 ++ L7.drop (0 + 24 + 8)) (h9 : L9 = L8.take (0 + 32) ++ leB x8 8 ++ L8.drop (0 + 32 + 8)) (h10 : L10 = L9.take 40 ++ R ++ L9.drop (40 + 64)) : L10 = ([leB x0 2, leB x1 2, leB x2 2, leB x3 2, leB x4 2, leB 0 2, leB x5 4, leB x6 8, leB x7 8, leB x8 8, R] : List (List Int)).flatten ++ List.replicate 24 0 := by
  have e0 : L0 = ([] : List Int) ++ List.replicate 128 0 := by rw [h0]; rfl
  have e1 : L1 = (([] : List Int) ++ (List.replicate 0 0 ++ (leB x0 1))) ++ List.replicate 127 0 := by
    rw [h1, e0]
    exact put_zeros ([] : List Int) (leB x0 1) 0 0 128 (0 + 0) 1 (by simp [leB_length]) (leB_length _ _) (by decide) (by decide)
  have e2 : L2 = ((([] : List Int) ++ (List.replicate 0 0 ++ (leB x0 1))) ++ (List.replicate 1 0 ++ (leB x1 2))) ++ List.replicate 124 0 := by
    rw [h2, e1]
    exact put_zeros (([] : List Int) ++ (List.replicate 0 0 ++ (leB x0 1))) (leB x1 2) 1 1 127 (0 + 2) 2 (by simp [leB_length]) (leB_length _ _) (by decide) (by decide)
  have e3 : L3 = (((([] : List Int) ++ (List.replicate 0 0 ++ (leB x0 1))) ++ (List.replicate 1 0 ++ (leB x1 2))) ++ (List.replicate 0 0 ++ (leB x2 2))) ++ List.replicate 122 0 := by
    rw [h3, e2]
    exact put_zeros ((([] : List Int) ++ (List.replicate 0 0 ++ (leB x0 1))) ++ (List.replicate 1 0 ++ (leB x1 2))) (leB x2 2) 4 0 124 (0 + 4) 2 (by simp [leB_length]) (leB_length _ _) (by decide) (by decide)
  have e4 : L4 = ((((([] : List Int) ++ (List.replicate 0 0 ++ (leB x0 1))) ++ (List.replicate 1 0 ++ (leB x1 2))) ++ (List.replicate 0 0 ++ (leB x2 2))) ++ (List.replicate 0 0 ++ (leB x3 2))) ++ List.replicate 120 0 := by
    rw [h4, e3]
    exact put_zeros (((([] : List Int) ++ (List.replicate 0 0 ++ (leB x0 1))) ++ (List.replicate 1 0 ++ (leB x1 2))) ++ (List.replicate 0 0 ++ (leB x2 2))) (leB x3 2) 6 0 122 (0 + 6) 2 (by simp [leB_length]) (leB_length _ _) (by decide) (by decide)
  have e5 : L5 = (((((([] : List Int) ++ (List.replicate 0 0 ++ (leB x0 1))) ++ (List.replicate 1 0 ++ (leB x1 2))) ++ (List.replicate 0 0 ++ (leB x2 2))) ++ (List.replicate 0 0 ++ (leB x3 2))) ++ (List.replicate 0 0 ++ (leB x4 2))) ++ List.replicate 118 0 := by
    rw [h5, e4]
    exact put_zeros ((((([] : List Int) ++ (List.replicate 0 0 ++ (leB x0 1))) ++ (List.replicate 1 0 ++ (leB x1 2))) ++ (List.replicate 0 0 ++ (leB x2 2))) ++ (List.replicate 0 0 ++ (leB x3 2))) (leB x4 2) 8 0 120 (0 + 8) 2 (by simp [leB_length]) (leB_length _ _) (by decide) (by decide)
  have e6 : L6 = ((((((([] : List Int) ++ (List.replicate 0 0 ++ (leB x0 1))) ++ (List.replicate 1 0 ++ (leB x1 2))) ++ (List.replicate 0 0 ++ (leB x2 2))) ++ (List.replicate 0 0 ++ (leB x3 2))) ++ (List.replicate 0 0 ++ (leB x4 2))) ++ (List.replicate 2 0 ++ (leB x5 4))) ++ List.replicate 112 0 := by
    rw [h6, e5]
    exact put_zeros (((((([] : List Int) ++ (List.replicate 0 0 ++ (leB x0 1))) ++ (List.replicate 1 0 ++ (leB x1 2))) ++ (List.replicate 0 0 ++ (leB x2 2))) ++ (List.replicate 0 0 ++ (leB x3 2))) ++ (List.replicate 0 0 ++ (leB x4 2))) (leB x5 4) 10 2 118 (0 + 12) 4 (by simp [leB_length]) (leB_length _ _) (by decide) (by decide)
  have e7 : L7 = (((((((([] : List Int) ++ (List.replicate 0 0 ++ (leB x0 1))) ++ (List.replicate 1 0 ++ (leB x1 2))) ++ (List.replicate 0 0 ++ (leB x2 2))) ++ (List.replicate 0 0 ++ (leB x3 2))) ++ (List.replicate 0 0 ++ (leB x4 2))) ++ (List.replicate 2 0 ++ (leB x5 4))) ++ (List.replicate 0 0 ++ (leB x6 8))) ++ List.replicate 104 0 := by
    rw [h7, e6]
    exact put_zeros ((((((([] : List Int) ++ (List.replicate 0 0 ++ (leB x0 1))) ++ (List.replicate 1 0 ++ (leB x1 2))) ++ (List.replicate 0 0 ++ (leB x2 2))) ++ (List.replicate 0 0 ++ (leB x3 2))) ++ (List.replicate 0 0 ++ (leB x4 2))) ++ (List.replicate 2 0 ++ (leB x5 4))) (leB x6 8) 16 0 112 (0 + 16) 8 (by simp [leB_length]) (leB_length _ _) (by decide) (by decide)
  have e8 : L8 = ((((((((([] : List Int) ++ (List.replicate 0 0 ++ (leB x0 1))) ++ (List.replicate 1 0 ++ (leB x1 2))) ++ (List.replicate 0 0 ++ (leB x2 2))) ++ (List.replicate 0 0 ++ (leB x3 2))) ++ (List.replicate 0 0 ++ (leB x4 2))) ++ (List.replicate 2 0 ++ (leB x5 4))) ++ (List.replicate 0 0 ++ (leB x6 8))) ++ (List.replicate 0 0 ++ (leB x7 8))) ++ List.replicate 96 0 := by
    rw [h8, e7]
    exact put_zeros (((((((([] : List Int) ++ (List.replicate 0 0 ++ (leB x0 1))) ++ (List.replicate 1 0 ++ (leB x1 2))) ++ (List.replicate 0 0 ++ (leB x2 2))) ++ (List.replicate 0 0 ++ (leB x3 2))) ++ (List.replicate 0 0 ++ (leB x4 2))) ++ (List.replicate 2 0 ++ (leB x5 4))) ++ (List.replicate 0 0 ++ (leB x6 8))) (leB x7 8) 24 0 104 (0 + 24) 8 (by simp [leB_length]) (leB_length _ _) (by decide) (by decide)
  have e9 : L9 = (((((((((([] : List Int) ++ (List.replicate 0 0 ++ (leB x0 1))) ++ (List.replicate 1 0 ++ (leB x1 2))) ++ (List.replicate 0 0 ++ (leB x2 2))) ++ (List.replicate 0 0 ++ (leB x3 2))) ++ (List.replicate 0 0 ++ (leB x4 2))) ++ (List.replicate 2 0 ++ (leB x5 4))) ++ (List.replicate 0 0 ++ (leB x6 8))) ++ (List.replicate 0 0 ++ (leB x7 8))) ++ (List.replicate 0 0 ++ (leB x8 8))) ++ List.replicate 88 0 := by
    rw [h9, e8]
    exact put_zeros ((((((((([] : List Int) ++ (List.replicate 0 0 ++ (leB x0 1))) ++ (List.replicate 1 0 ++ (leB x1 2))) ++ (List.replicate 0 0 ++ (leB x2 2))) ++ (List.replicate 0 0 ++ (leB x3 2))) ++ (List.replicate 0 0 ++ (leB x4 2))) ++ (List.replicate 2 0 ++ (leB x5 4))) ++ (List.replicate 0 0 ++ (leB x6 8))) ++ (List.replicate 0 0 ++ (leB x7 8))) (leB x8 8) 32 0 96 (0 + 32) 8 (by simp [leB_length]) (leB_length _ _) (by decide) (by decide)
  have e10 : L10 = ((((((((((([] : List Int) ++ (List.replicate 0 0 ++ (leB x0 1))) ++ (List.replicate 1 0 ++ (leB x1 2))) ++ (List.replicate 0 0 ++ (leB x2 2))) ++ (List.replicate 0 0 ++ (leB x3 2))) ++ (List.replicate 0 0 ++ (leB x4 2))) ++ (List.replicate 2 0 ++ (leB x5 4))) ++ (List.replicate 0 0 ++ (leB x6 8))) ++ (List.replicate 0 0 ++ (leB x7 8))) ++ (List.replicate 0 0 ++ (leB x8 8))) ++ (List.replicate 0 0 ++ R)) ++ List.replicate 24 0 := by
    rw [h10, e9]
    exact put_zeros (((((((((([] : List Int) ++ (List.replicate 0 0 ++ (leB x0 1))) ++ (List.replicate 1 0 ++ (leB x1 2))) ++ (List.replicate 0 0 ++ (leB x2 2))) ++ (List.replicate 0 0 ++ (leB x3 2))) ++ (List.replicate 0 0 ++ (leB x4 2))) ++ (List.replicate 2 0 ++ (leB x5 4))) ++ (List.replicate 0 0 ++ (leB x6 8))) ++ (List.replicate 0 0 ++ (leB x7 8))) ++ (List.replicate 0 0 ++ (leB x8 8))) R 40 0 88 40 64 (by simp [leB_length]) hR (by decide) (by decide)
  rw [e10, leB_one hx]
  simp [leB, List.append_assoc]
end Go.Proofs.YtkghgjehjchajaaW.PrintIno
