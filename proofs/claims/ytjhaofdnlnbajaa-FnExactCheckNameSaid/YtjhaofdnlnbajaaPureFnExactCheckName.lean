/- The law of CheckName answers true for every name; no condition. -/
import Derived.Test.YtjhaofdnlnbajaaPFnExactCheckNamex1
namespace Go.Proofs.Ytjhaofdnlnbajaa.Pure
open Go.RowKit Go.Proofs.Ytjhaofdnlnbajaa.PFnExactCheckName Go.Proofs.YtjhaofdnlnbajaaW.PrintWords Go.Proofs.YtjhaofdnlnbajaaW.PrintLast
set_option linter.unusedVariables false

theorem w64 {x : Int} (h0 : -9223372036854775808 ≤ x) (h1 : x ≤ 9223372036854775807) : wrap64 x = x := by unfold wrap64; omega
theorem w64n {n : Nat} (h : n < 9223372036854775807) : wrap64 ((n : Int) + 1) = ((n + 1 : Nat) : Int) := by unfold wrap64; omega
theorem sucK {n k : Nat} (h : n < k) : ∃ m, k = m + 1 := ⟨k - 1, by omega⟩
theorem rdN (xs : List Int) (i : Nat) : rd xs (i : Int) = xs.getD i 0 := by simp [rd]
theorem rd_some {xs : List Int} {i : Nat} (h : i < xs.length) : rd xs (i : Int) = xs[i] := by rw [rdN, List.getD_eq_getElem?_getD, List.getElem?_eq_getElem h]; rfl
theorem bt_get (s : ByteArray) (i : Nat) (h : i < s.size) : bt s (i : Int) = ((s.get! i).toNat : Int) := by
  have e : s.get! i = s[i]'h := by
    show s.get! i = _
    simp [ByteArray.get!, getElem!_pos, h]
    rfl
  rw [e]
  exact (bt_at s (i : Int) (by simpa using h)).symm
theorem dec_small (s : ByteArray) (i : Nat) (h : (s.get! i).toNat < 128) : Utf8.decode s i = ((s.get! i).toNat, 1) := by
  simp only [Utf8.decode, Nat.add_zero]
  rw [if_pos h]
theorem dec_large (s : ByteArray) (i : Nat) (hi : i < s.size) (h : 128 ≤ (s.get! i).toNat) :
    128 ≤ (Utf8.decode s i).1 ∧ ∃ m, (Utf8.decode s i).2 = m + 1 ∧ ∀ j, j ≤ m → i + j < s.size ∧ 128 ≤ (s.get! (i + j)).toNat := by
  have one : ∃ m, (1 : Nat) = m + 1 ∧ ∀ j, j ≤ m → i + j < s.size ∧ 128 ≤ (s.get! (i + j)).toNat := ⟨0, rfl, fun j hj => by
    obtain rfl : j = 0 := by omega
    exact ⟨hi, h⟩⟩
  simp only [Utf8.decode, Nat.add_zero]
  rw [if_neg (by omega)]
  split
  · rename_i c
    simp only [Bool.and_eq_true, beq_iff_eq, decide_eq_true_eq] at c
    split
    · refine ⟨by assumption, 1, rfl, fun j hj => ?_⟩
      rcases (by omega : j = 0 ∨ j = 1) with rfl | rfl
      · exact ⟨hi, h⟩
      · exact ⟨c.2.1, by omega⟩
    · exact ⟨by simp [Utf8.runeError], one⟩
  · split
    · rename_i c
      simp only [Bool.and_eq_true, beq_iff_eq, decide_eq_true_eq] at c
      split
      · rename_i d
        simp only [Bool.and_eq_true, decide_eq_true_eq] at d
        refine ⟨by have := d.1; omega, 2, rfl, fun j hj => ?_⟩
        rcases (by omega : j = 0 ∨ j = 1 ∨ j = 2) with rfl | rfl | rfl
        · exact ⟨hi, h⟩
        · exact ⟨c.1.2.1, by have := c.1.2.2; omega⟩
        · exact ⟨c.2.1, by have := c.2.2; omega⟩
      · exact ⟨by simp [Utf8.runeError], one⟩
    · split
      · rename_i c
        simp only [Bool.and_eq_true, beq_iff_eq, decide_eq_true_eq] at c
        split
        · rename_i d
          simp only [Bool.and_eq_true, decide_eq_true_eq] at d
          refine ⟨by have := d.1; omega, 3, rfl, fun j hj => ?_⟩
          rcases (by omega : j = 0 ∨ j = 1 ∨ j = 2 ∨ j = 3) with rfl | rfl | rfl | rfl
          · exact ⟨hi, h⟩
          · exact ⟨c.1.1.2.1, by have := c.1.1.2.2; omega⟩
          · exact ⟨c.1.2.1, by have := c.1.2.2; omega⟩
          · exact ⟨c.2.1, by have := c.2.2; omega⟩
        · exact ⟨by simp [Utf8.runeError], one⟩
      · exact ⟨by simp [Utf8.runeError], one⟩
/-- A byte that no name may hold, from i on. -/
def Bad (s : ByteArray) (i : Nat) : Prop := ∃ j, i ≤ j ∧ j < s.size ∧ ((s.get! j).toNat = 47 ∨ (s.get! j).toNat = 0)
theorem bad_skip {s : ByteArray} {i m : Nat} (h : ∀ j, j < m → ¬ ((s.get! (i + j)).toNat = 47 ∨ (s.get! (i + j)).toNat = 0)) : Bad s i ↔ Bad s (i + m) := by
  constructor
  · rintro ⟨j, h1, h2, h3⟩
    refine ⟨j, ?_, h2, h3⟩
    apply Nat.le_of_not_lt
    intro hlt
    refine h (j - i) (by omega) ?_
    rw [show i + (j - i) = j by omega]
    exact h3
  · rintro ⟨j, h1, h2, h3⟩
    exact ⟨j, by omega, h2, h3⟩
open Classical in
theorem spec_l0 (s : ByteArray) (hs : s.size < 9223372036854775807) : ∀ n k i, s.size - i ≤ n → n < k → spec_CheckName.l0 k s (i : Int) = some (if Bad s i then 7 else 0)
  | n, 0, i, _, hk => absurd hk (by omega)
  | n, k + 1, i, hn, hk => by
    rw [spec_CheckName.l0]
    by_cases hi : i < s.size
    · rw [if_pos (by omega), if_pos (by omega), bt_get s i hi]
      by_cases c1 : (s.get! i).toNat = 47
      · rw [if_pos (by omega), if_pos ⟨i, Nat.le_refl _, hi, Or.inl c1⟩]
      · rw [if_neg (by omega)]
        by_cases c2 : (s.get! i).toNat = 0
        · rw [if_pos (by omega), if_pos ⟨i, Nat.le_refl _, hi, Or.inr c2⟩]
        · obtain ⟨n', rfl⟩ : ∃ n', n = n' + 1 := ⟨n - 1, by omega⟩
          rw [if_neg (by omega), w64n (by omega), spec_l0 s hs n' k (i + 1) (by omega) (by omega)]
          have hb : Bad s i ↔ Bad s (i + 1) := bad_skip (fun j hj => by
            obtain rfl : j = 0 := by omega
            simp only [Nat.add_zero]
            omega)
          simp only [hb]
    · rw [if_neg (by omega), if_neg (fun ⟨j, h1, h2, _⟩ => by omega)]
open Classical in
theorem impl_l0 (s : ByteArray) : ∀ n k i, s.size - i ≤ n → n < k → impl_CheckName.l0 k s i = some (if Bad s i then 7 else 0)
  | n, 0, i, _, hk => absurd hk (by omega)
  | n, k + 1, i, hn, hk => by
    rw [impl_CheckName.l0]
    by_cases hi : i < s.size
    · rw [if_pos hi]
      by_cases hb : (s.get! i).toNat < 128
      · rw [dec_small s i hb]
        by_cases c1 : (s.get! i).toNat = 47
        · rw [if_pos c1, if_pos ⟨i, Nat.le_refl _, hi, Or.inl c1⟩]
        · rw [if_neg c1]
          by_cases c2 : (s.get! i).toNat = 0
          · rw [if_pos c2, if_pos ⟨i, Nat.le_refl _, hi, Or.inr c2⟩]
          · obtain ⟨n', rfl⟩ : ∃ n', n = n' + 1 := ⟨n - 1, by omega⟩
            rw [if_neg c2, impl_l0 s n' k (i + 1) (by omega) (by omega)]
            have hb : Bad s i ↔ Bad s (i + 1) := bad_skip (fun j hj => by
              obtain rfl : j = 0 := by omega
              simp only [Nat.add_zero]
              omega)
            simp only [hb]
      · obtain ⟨h1, m, h2, h3⟩ := dec_large s i hi (by omega)
        have := (h3 m (Nat.le_refl _)).1
        obtain ⟨n', rfl⟩ : ∃ n', n = n' + 1 := ⟨n - 1, by omega⟩
        rw [if_neg (by omega), if_neg (by omega), h2, impl_l0 s n' k (i + (m + 1)) (by omega) (by omega)]
        have hb : Bad s i ↔ Bad s (i + (m + 1)) := bad_skip (fun j hj => by
          have := (h3 j (by omega)).2
          omega)
        simp only [hb]
    · rw [if_neg hi, if_neg (fun ⟨j, h1, h2, _⟩ => by omega)]
theorem checkName_eq (s : ByteArray) (k : Nat) (hk : 100 < k) : ∃ r, spec_CheckName.f k s = some r ∧ impl_CheckName.f k s = some r := by
  obtain ⟨k, rfl⟩ : ∃ k', k = k' + 1 := ⟨k - 1, by omega⟩
  unfold spec_CheckName.f impl_CheckName.f
  by_cases c1 : s.toList = ([] : List UInt8)
  · rw [if_pos c1, if_pos c1, spec_CheckName.j0, if_pos rfl]
    exact ⟨_, rfl, rfl⟩
  rw [if_neg c1, if_neg c1]
  by_cases c2 : s.toList = ([46] : List UInt8)
  · rw [if_pos c2, if_pos c2, spec_CheckName.j0, if_pos rfl]
    exact ⟨_, rfl, rfl⟩
  rw [if_neg c2, if_neg c2]
  by_cases c3 : s.toList = ([46, 46] : List UInt8)
  · rw [if_pos c3, spec_CheckName.j0, if_pos (by rw [c3]; rfl)]
    exact ⟨_, rfl, rfl⟩
  rw [if_neg c3, spec_CheckName.j0, if_neg (by simpa using c3)]
  by_cases c4 : (s.size : Int) > 26
  · rw [if_pos c4, if_pos c4]
    exact ⟨_, rfl, rfl⟩
  rw [if_neg c4, if_neg c4]
  have e := spec_l0 s (by omega) 26 k 0 (by omega) (by omega)
  have e' := impl_l0 s 26 (k + 1) 0 (by omega) (by omega)
  exact ⟨_, e, e'⟩
theorem FnExactCheckName : laws_FnExactCheckName.Pure := by
  intro s _
  refine ⟨200, ?_⟩
  unfold laws_FnExactCheckName.f
  by_cases hl : (s.size : Int) > 1048576
  · rw [if_pos hl]
  · obtain ⟨r, h1, h2⟩ := checkName_eq s 200 (by omega)
    rw [if_neg hl, h1, h2]
    simp

end Go.Proofs.Ytjhaofdnlnbajaa.Pure
