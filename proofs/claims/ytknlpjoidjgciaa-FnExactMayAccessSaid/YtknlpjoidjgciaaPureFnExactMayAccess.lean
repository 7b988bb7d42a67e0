/- The law of MayAccess answers true for every node, user, group and want; no condition. -/
import Derived.Test.YtknlpjoidjgciaaPFnExactMayAccessx2
import Derived.OpenShut
import Derived.OpenShut
namespace Go.Proofs.Ytknlpjoidjgciaa.Pure
open Go.RowKit Go.Proofs.Ytknlpjoidjgciaa.PFnExactMayAccess Go.Proofs.YtknlpjoidjgciaaW.PrintWords Go.Proofs.YtknlpjoidjgciaaW.PrintLast
set_option linter.unusedVariables false
set_option linter.unusedVariables false

theorem w64 {x : Int} (h0 : -9223372036854775808 ≤ x) (h1 : x ≤ 9223372036854775807) : wrap64 x = x := by unfold wrap64; omega
theorem w64n {n : Nat} (h : n < 9223372036854775807) : wrap64 ((n : Int) + 1) = ((n + 1 : Nat) : Int) := by unfold wrap64; omega
theorem sucK {n k : Nat} (h : n < k) : ∃ m, k = m + 1 := ⟨k - 1, by omega⟩
theorem rdN (xs : List Int) (i : Nat) : rd xs (i : Int) = xs.getD i 0 := by simp [rd]
theorem rd_some {xs : List Int} {i : Nat} (h : i < xs.length) : rd xs (i : Int) = xs[i] := by rw [rdN, List.getD_eq_getElem?_getD, List.getElem?_eq_getElem h]; rfl

theorem toByteS_l0 (x0 : List Int) (hn : x0.length < 9223372036854775807) : ∀ (d i k : Nat) (x3 : List Int), i + d = x0.length → x3.length = x0.length → d < k → laws_toByteS.l0 k x0 x3 (i : Int) = some (x3.take i ++ x0.drop i)
  | 0, i, k, x3, h1, h2, h3 => by
    obtain ⟨k, rfl⟩ := sucK h3
    simp only [laws_toByteS.l0]
    rw [if_neg (by omega), List.take_of_length_le (by omega), List.drop_eq_nil_of_le (by omega), List.append_nil]
  | d + 1, i, k, x3, h1, h2, h3 => by
    obtain ⟨k, rfl⟩ := sucK h3
    simp only [laws_toByteS.l0]
    rw [if_pos (by omega), if_pos (by omega), if_pos (by omega), w64n (by omega), toByteS_l0 x0 hn d (i + 1) k _ (by omega) (by simpa using h2) (by omega)]
    have hi : i < x0.length := by omega
    rw [Int.toNat_natCast, rd_some hi, List.take_succ_eq_append_getElem (by rw [List.length_set]; omega), List.getElem_set_self, List.take_set_of_le (Nat.le_refl i), List.append_assoc, List.drop_eq_getElem_cons hi]
    rfl
theorem toByteS_f (l : List Int) (k : Nat) (hn : l.length ≤ 1048576) (hk : l.length < k) : laws_toByteS.f k l = some l := by
  unfold laws_toByteS.f
  rw [if_pos (by omega), if_pos (by omega)]
  have h := toByteS_l0 l (by omega) l.length 0 k (List.replicate ((l.length : Int)).toNat 0) (by omega) (by simp) hk
  rw [List.take_zero, List.drop_zero, List.nil_append] at h
  exact h

theorem eqByteS_l0 (x0 x1 : List Int) (hn : x0.length < 9223372036854775807) (hl : x0.length = x1.length) : ∀ (d i k : Nat), i + d = x0.length → d < k → laws_eqByteS.l0 k x0 x1 (i : Int) = some (decide (x0.drop i = x1.drop i))
  | 0, i, k, h1, h3 => by
    obtain ⟨k, rfl⟩ := sucK h3
    simp only [laws_eqByteS.l0]
    rw [if_neg (by omega), List.drop_eq_nil_of_le (by omega), List.drop_eq_nil_of_le (by omega)]
    simp
  | d + 1, i, k, h1, h3 => by
    obtain ⟨k, rfl⟩ := sucK h3
    simp only [laws_eqByteS.l0]
    have hi : i < x0.length := by omega
    have hi1 : i < x1.length := by omega
    have hd0 := List.drop_eq_getElem_cons hi
    have hd1 := List.drop_eq_getElem_cons hi1
    rw [if_pos (by omega), if_pos (by omega), if_pos (by omega), w64n (by omega), eqByteS_l0 x0 x1 hn hl d (i + 1) k (by omega) (by omega), rd_some hi, rd_some hi1]
    by_cases h : x0[i] = x1[i]
    · rw [if_pos h]
      simp only [hd0, hd1, List.cons.injEq, h, true_and]
    · rw [if_neg h]
      simp only [hd0, hd1, List.cons.injEq, h, false_and, decide_false]
theorem eqByteS_f (a b : List Int) (k : Nat) (hn : a.length ≤ 1048576) (hk : a.length < k) : laws_eqByteS.f k a b = some (decide (a = b)) := by
  unfold laws_eqByteS.f
  by_cases h : a.length = b.length
  · rw [if_pos (by omega)]
    exact eqByteS_l0 a b (by omega) h a.length 0 k (by omega) hk
  · rw [if_neg (by omega)]
    have : a ≠ b := fun e => h (by rw [e])
    simp [this]
theorem and_low (m w : Int) (h0 : 0 ≤ w) (h7 : w ≤ 7) : Go.bits .and .i64 m w = Go.bits .and .i64 (m % 8) w := by
  obtain ⟨n, rfl⟩ := Int.eq_ofNat_of_zero_le h0
  have hn : n < 8 := by omega
  have key : (BitVec.ofInt 64 m &&& BitVec.ofInt 64 (n : Int)) = (BitVec.ofInt 64 (m % 8) &&& BitVec.ofInt 64 (n : Int)) := by
    apply BitVec.eq_of_toNat_eq
    rw [BitVec.toNat_and, BitVec.toNat_and, BitVec.toNat_ofInt, BitVec.toNat_ofInt, BitVec.toNat_ofInt]
    have e1 : ((n : Int) % ((2 ^ 64 : Nat) : Int)).toNat = n := by omega
    have e2 : (m % 8 % ((2 ^ 64 : Nat) : Int)).toNat = (m % ((2 ^ 64 : Nat) : Int)).toNat % 8 := by omega
    rw [e1, e2]
    generalize (m % ((2 ^ 64 : Nat) : Int)).toNat = a
    have e3 : n = 7 &&& n := by
      have : ∀ q : Fin 8, q.val = 7 &&& q.val := by decide
      exact this ⟨n, hn⟩
    have e4 : a &&& 7 = a % 8 := Nat.and_two_pow_sub_one_eq_mod a 3
    rw [← e4, Nat.and_assoc, ← e3]
  exact congrArg (fun v : BitVec 64 => IntKind.i64.wrap ((v.toNat : Nat) : Int)) key
theorem and_one (x : Int) : Go.bits .and .i64 x 1 = x % 2 := by
  rw [and_low x 1 (by omega) (by omega)]
  have h : ∀ q : Fin 8, Go.bits .and .i64 ((q.val : Nat) : Int) 1 = ((q.val : Nat) : Int) % 2 := by decide +kernel
  have := h ⟨(x % 8).toNat, by omega⟩
  simp only [] at this
  rw [show (((x % 8).toNat : Nat) : Int) = x % 8 by omega] at this
  rw [this]
  omega
theorem shr_at (x : Int) (i : Nat) (h : i ≤ 2) : shr .i64 x (i : Int) = x / 2 ^ i := by
  unfold shr
  rw [Int.toNat_natCast, Nat.min_eq_left (by simp [IntKind.bits]; omega)]
/-- the loop over three bits, told by the bits alone -/
theorem bitsL (m w : Int) (k : Nat) (hk : 4 < k) : spec_l07Bits.f k m w = some (!((w % 2 == 1 && m % 2 == 0) || (w / 2 % 2 == 1 && m / 2 % 2 == 0) || (w / 4 % 2 == 1 && m / 4 % 2 == 0))) := by
  obtain ⟨k, rfl⟩ : ∃ j, k = j + 4 := ⟨k - 4, by omega⟩
  have s0 : ∀ x : Int, shr .i64 x 0 = x := fun x => by have := shr_at x 0 (by omega); simpa using this
  have s1 : ∀ x : Int, shr .i64 x 1 = x / 2 := fun x => by have := shr_at x 1 (by omega); simpa using this
  have s2 : ∀ x : Int, shr .i64 x 2 = x / 4 := fun x => by have := shr_at x 2 (by omega); simpa using this
  have w1 : wrap64 (0 + 1) = 1 := by unfold wrap64; omega
  have w2 : wrap64 (1 + 1) = 2 := by unfold wrap64; omega
  have w3 : wrap64 (2 + 1) = 3 := by unfold wrap64; omega
  unfold spec_l07Bits.f
  simp only [spec_l07Bits.l0, w1, w2, w3, s0, s1, s2, and_one]
  by_cases a0 : w % 2 = 1 <;> by_cases b0 : m % 2 = 0 <;> by_cases a1 : w / 2 % 2 = 1 <;> by_cases b1 : m / 2 % 2 = 0 <;> by_cases a2 : w / 4 % 2 = 1 <;> by_cases b2 : m / 4 % 2 = 0 <;> simp [a0, b0, a1, b1, a2, b2]
theorem bits_f (m w : Int) (h0 : 0 ≤ w) (h7 : w ≤ 7) (k : Nat) (hk : 4 < k) : spec_l07Bits.f k m w = some (Go.bits .and .i64 m w == w) := by
  rw [bitsL m w k hk, and_low m w h0 h7]
  have h : ∀ r q : Fin 8, (!(((q.val : Int) % 2 == 1 && (r.val : Int) % 2 == 0) || ((q.val : Int) / 2 % 2 == 1 && (r.val : Int) / 2 % 2 == 0) || ((q.val : Int) / 4 % 2 == 1 && (r.val : Int) / 4 % 2 == 0))) = (Go.bits .and .i64 (r.val : Int) (q.val : Int) == (q.val : Int)) := by decide +kernel
  have := h ⟨(m % 8).toNat, by omega⟩ ⟨w.toNat, by omega⟩
  simp only [] at this
  rw [show (((m % 8).toNat : Nat) : Int) = m % 8 by omega, show ((w.toNat : Nat) : Int) = w by omega] at this
  rw [← this, show m % 8 % 2 = m % 2 by omega, show m % 8 / 2 % 2 = m / 2 % 2 by omega, show m % 8 / 4 % 2 = m / 4 % 2 by omega]
/-- what both answer -/
def mayR (mode nu ng uid gid want : Int) : Bool := if 0 ≤ want ∧ want ≤ 7 then (if uid = 0 then true else if uid = nu then Go.bits .and .i64 (mode / 64) want == want else if gid = ng then Go.bits .and .i64 (mode / 8) want == want else Go.bits .and .i64 mode want == want) else false
theorem impl_f (a0 a1 mode nu ng a5 a6 a7 a8 : Int) (l : List Int) (uid gid want : Int) : impl_MayAccess.f a0 a1 mode nu ng a5 a6 a7 a8 l uid gid want = some (mayR mode nu ng uid gid want) := by
  unfold impl_MayAccess.f impl_within.f mayR
  by_cases h0 : want ≥ 0
  · by_cases h7 : want ≤ 7
    · rw [if_pos h0, if_pos (And.intro (show 0 ≤ want from h0) h7)]
      simp only [Option.bind_some, decide_eq_true h7, if_true]
      repeat (split <;> try rfl)
    · rw [if_pos h0, if_neg (show ¬ (0 ≤ want ∧ want ≤ 7) from fun h => h7 h.2)]
      simp [h7]
  · rw [if_neg h0, if_neg (show ¬ (0 ≤ want ∧ want ≤ 7) from fun h => h0 h.1)]
    simp
theorem spec_f (a0 a1 mode nu ng a5 a6 a7 a8 : Int) (l : List Int) (uid gid want : Int) (k : Nat) (hk : 8 < k) : spec_MayAccess.f k a0 a1 mode nu ng a5 a6 a7 a8 l uid gid want = some (mayR mode nu ng uid gid want) := by
  obtain ⟨k, rfl⟩ : ∃ j, k = j + 1 := ⟨k - 1, by omega⟩
  unfold spec_MayAccess.f mayR
  simp only [spec_MayAccess.j0]
  by_cases h0 : want < 0
  · rw [if_pos h0, if_neg (show ¬ (0 ≤ want ∧ want ≤ 7) from fun h => by omega)]
    simp
  · rw [if_neg h0]
    by_cases h7 : want ≤ 7
    · rw [if_pos (And.intro (show 0 ≤ want by omega) h7), decide_eq_false (show ¬ want > 7 by omega)]
      simp only [Bool.false_eq_true, if_false, bits_f _ want (by omega) h7 k (by omega), Option.bind_some]
      repeat (split <;> try rfl)
    · rw [if_neg (show ¬ (0 ≤ want ∧ want ≤ 7) from fun h => h7 h.2), decide_eq_true (show want > 7 by omega)]
      simp
theorem FnExactMayAccess : laws_FnExactMayAccess.Pure := by
  intro a0 a1 a2 a3 a4 a5 a6 a7 a8 l uid gid want _ _ _ _ _ _ _ _ _ hl _ _ _
  refine ⟨2000000, ?_⟩
  have hm : l.length ≤ 9223372036854775807 := by have := hl.1; simpa [maxLen] using this
  unfold laws_FnExactMayAccess.f laws_szNode.f laws_szByteS.f
  by_cases hs : wrap64 (1048576 - (l.length : Int)) < 0
  · rw [if_pos hs]
    simp
  · rw [if_neg hs]
    have hn : l.length ≤ 1048576 := by unfold wrap64 at hs; omega
    have t1 := toByteS_f l 2000000 hn (by omega)
    have e1 := eqByteS_f l l 2000000 hn (by omega)
    unfold laws_toNode.f laws_eqNode.f
    simp only [Option.bind_some, if_neg hs, t1, impl_f, spec_f _ _ _ _ _ _ _ _ _ _ _ _ _ 2000000 (by omega), e1, bne_self_eq_false, Bool.false_eq_true, if_false, if_true, decide_true]

end Go.Proofs.Ytknlpjoidjgciaa.Pure
