/- The law of DecodeSnap answers true at every argument; no condition. -/
import Derived.Test.YtkghgjehjchajaaDoorPFnExactDecodeSnapx3
namespace Go.Proofs.YtkghgjehjchajaaDoor.Pure
open Go.RowKit Go.Proofs.YtkghgjehjchajaaDoor.PFnExactDecodeSnap Go.Proofs.YtkghgjehjchajaaDoorW.PrintWords Go.Proofs.YtkghgjehjchajaaDoorW.PrintLast
set_option linter.unusedVariables false

theorem w64 {x : Int} (h0 : -9223372036854775808 ≤ x) (h1 : x ≤ 9223372036854775807) : wrap64 x = x := by unfold wrap64; omega
theorem w64n {n : Nat} (h : n < 9223372036854775807) : wrap64 ((n : Int) + 1) = ((n + 1 : Nat) : Int) := by unfold wrap64; omega
theorem sucK {n k : Nat} (h : n < k) : ∃ m, k = m + 1 := ⟨k - 1, by omega⟩
theorem rdN (xs : List Int) (i : Nat) : rd xs (i : Int) = xs.getD i 0 := by simp [rd]
theorem rd_some {xs : List Int} {i : Nat} (h : i < xs.length) : rd xs (i : Int) = xs[i] := by rw [rdN, List.getD_eq_getElem?_getD, List.getElem?_eq_getElem h]; rfl

theorem eqByteS_l0 (x0 x1 : List Int) (hn : x0.length < 9223372036854775807) (hl : x0.length = x1.length) : ∀ (d i k : Nat), i + d = x0.length → d < k → laws_eqByteS.l0 k x0 x1 (i : Int) = some (decide (x0.drop i = x1.drop i))
  | 0, i, k, h1, h3 => by
    obtain ⟨k, rfl⟩ := sucK h3
    simp only [laws_eqByteS.l0]
    rw [if_neg (by omega), List.drop_eq_nil_of_le (by omega), List.drop_eq_nil_of_le (by omega)]
    simp
  | d + 1, i, k, h1, h3 => by
    obtain ⟨k, rfl⟩ := sucK h3
    simp only [laws_eqByteS.l0]
    have hi : i < x0.length := by omega
    have hi1 : i < x1.length := by omega
    have hd0 := List.drop_eq_getElem_cons hi
    have hd1 := List.drop_eq_getElem_cons hi1
    rw [if_pos (by omega), if_pos (by omega), if_pos (by omega), w64n (by omega), eqByteS_l0 x0 x1 hn hl d (i + 1) k (by omega) (by omega), rd_some hi, rd_some hi1]
    by_cases h : x0[i] = x1[i]
    · rw [if_pos h]
      simp only [hd0, hd1, List.cons.injEq, h, true_and]
    · rw [if_neg h]
      simp only [hd0, hd1, List.cons.injEq, h, false_and, decide_false]
theorem eqByteS_f (a b : List Int) (k : Nat) (hn : a.length ≤ 1048576) (hk : a.length < k) : laws_eqByteS.f k a b = some (decide (a = b)) := by
  unfold laws_eqByteS.f
  by_cases h : a.length = b.length
  · rw [if_pos (by omega)]
    exact eqByteS_l0 a b (by omega) h a.length 0 k (by omega) hk
  · rw [if_neg (by omega)]
    have : a ≠ b := fun e => h (by rw [e])
    simp [this]

theorem toByteS_l0 (x0 : List Int) (hn : x0.length < 9223372036854775807) : ∀ (d i k : Nat) (x3 : List Int), i + d = x0.length → x3.length = x0.length → d < k → laws_toByteS.l0 k x0 x3 (i : Int) = some (x3.take i ++ x0.drop i)
  | 0, i, k, x3, h1, h2, h3 => by
    obtain ⟨k, rfl⟩ := sucK h3
    simp only [laws_toByteS.l0]
    rw [if_neg (by omega), List.take_of_length_le (by omega), List.drop_eq_nil_of_le (by omega), List.append_nil]
  | d + 1, i, k, x3, h1, h2, h3 => by
    obtain ⟨k, rfl⟩ := sucK h3
    simp only [laws_toByteS.l0]
    rw [if_pos (by omega), if_pos (by omega), if_pos (by omega), w64n (by omega), toByteS_l0 x0 hn d (i + 1) k _ (by omega) (by simpa using h2) (by omega)]
    have hi : i < x0.length := by omega
    rw [Int.toNat_natCast, rd_some hi, List.take_succ_eq_append_getElem (by rw [List.length_set]; omega), List.getElem_set_self, List.take_set_of_le (Nat.le_refl i), List.append_assoc, List.drop_eq_getElem_cons hi]
    rfl
theorem toByteS_f (l : List Int) (k : Nat) (hn : l.length ≤ 1048576) (hk : l.length < k) : laws_toByteS.f k l = some l := by
  unfold laws_toByteS.f
  rw [if_pos (by omega), if_pos (by omega)]
  have h := toByteS_l0 l (by omega) l.length 0 k (List.replicate ((l.length : Int)).toNat 0) (by omega) (by simp) hk
  rw [List.take_zero, List.drop_zero, List.nil_append] at h
  exact h

theorem bt_get (s : ByteArray) (i : Nat) (h : i < s.size) : bt s (i : Int) = ((s.get! i).toNat : Int) := by
  have e : s.get! i = s[i]'h := by
    show s.get! i = _
    simp [ByteArray.get!, getElem!_pos, h]
    rfl
  rw [e]
  exact (bt_at s (i : Int) (by simpa using h)).symm
theorem dec_small (s : ByteArray) (i : Nat) (h : (s.get! i).toNat < 128) : Utf8.decode s i = ((s.get! i).toNat, 1) := by
  simp only [Utf8.decode, Nat.add_zero]
  rw [if_pos h]
theorem dec_large (s : ByteArray) (i : Nat) (hi : i < s.size) (h : 128 ≤ (s.get! i).toNat) :
    128 ≤ (Utf8.decode s i).1 ∧ ∃ m, (Utf8.decode s i).2 = m + 1 ∧ ∀ j, j ≤ m → i + j < s.size ∧ 128 ≤ (s.get! (i + j)).toNat := by
  have one : ∃ m, (1 : Nat) = m + 1 ∧ ∀ j, j ≤ m → i + j < s.size ∧ 128 ≤ (s.get! (i + j)).toNat := ⟨0, rfl, fun j hj => by
    obtain rfl : j = 0 := by omega
    exact ⟨hi, h⟩⟩
  simp only [Utf8.decode, Nat.add_zero]
  rw [if_neg (by omega)]
  split
  · rename_i c
    simp only [Bool.and_eq_true, beq_iff_eq, decide_eq_true_eq] at c
    split
    · refine ⟨by assumption, 1, rfl, fun j hj => ?_⟩
      rcases (by omega : j = 0 ∨ j = 1) with rfl | rfl
      · exact ⟨hi, h⟩
      · exact ⟨c.2.1, by omega⟩
    · exact ⟨by simp [Utf8.runeError], one⟩
  · split
    · rename_i c
      simp only [Bool.and_eq_true, beq_iff_eq, decide_eq_true_eq] at c
      split
      · rename_i d
        simp only [Bool.and_eq_true, decide_eq_true_eq] at d
        refine ⟨by have := d.1; omega, 2, rfl, fun j hj => ?_⟩
        rcases (by omega : j = 0 ∨ j = 1 ∨ j = 2) with rfl | rfl | rfl
        · exact ⟨hi, h⟩
        · exact ⟨c.1.2.1, by have := c.1.2.2; omega⟩
        · exact ⟨c.2.1, by have := c.2.2; omega⟩
      · exact ⟨by simp [Utf8.runeError], one⟩
    · split
      · rename_i c
        simp only [Bool.and_eq_true, beq_iff_eq, decide_eq_true_eq] at c
        split
        · rename_i d
          simp only [Bool.and_eq_true, decide_eq_true_eq] at d
          refine ⟨by have := d.1; omega, 3, rfl, fun j hj => ?_⟩
          rcases (by omega : j = 0 ∨ j = 1 ∨ j = 2 ∨ j = 3) with rfl | rfl | rfl | rfl
          · exact ⟨hi, h⟩
          · exact ⟨c.1.1.2.1, by have := c.1.1.2.2; omega⟩
          · exact ⟨c.1.2.1, by have := c.1.2.2; omega⟩
          · exact ⟨c.2.1, by have := c.2.2; omega⟩
        · exact ⟨by simp [Utf8.runeError], one⟩
      · exact ⟨by simp [Utf8.runeError], one⟩
/-- A byte that no name may hold, from i on. -/
def Bad (s : ByteArray) (i : Nat) : Prop := ∃ j, i ≤ j ∧ j < s.size ∧ ((s.get! j).toNat = 47 ∨ (s.get! j).toNat = 0)
theorem bad_skip {s : ByteArray} {i m : Nat} (h : ∀ j, j < m → ¬ ((s.get! (i + j)).toNat = 47 ∨ (s.get! (i + j)).toNat = 0)) : Bad s i ↔ Bad s (i + m) := by
  constructor
  · rintro ⟨j, h1, h2, h3⟩
    refine ⟨j, ?_, h2, h3⟩
    apply Nat.le_of_not_lt
    intro hlt
    refine h (j - i) (by omega) ?_
    rw [show i + (j - i) = j by omega]
    exact h3
  · rintro ⟨j, h1, h2, h3⟩
    exact ⟨j, by omega, h2, h3⟩
open Classical in
theorem spec_l0 (s : ByteArray) (hs : s.size < 9223372036854775807) : ∀ n k i, s.size - i ≤ n → n < k → spec_CheckName.l0 k s (i : Int) = some (if Bad s i then 7 else 0)
  | n, 0, i, _, hk => absurd hk (by omega)
  | n, k + 1, i, hn, hk => by
    rw [spec_CheckName.l0]
    by_cases hi : i < s.size
    · rw [if_pos (by omega), if_pos (by omega), bt_get s i hi]
      by_cases c1 : (s.get! i).toNat = 47
      · rw [if_pos (by omega), if_pos ⟨i, Nat.le_refl _, hi, Or.inl c1⟩]
      · rw [if_neg (by omega)]
        by_cases c2 : (s.get! i).toNat = 0
        · rw [if_pos (by omega), if_pos ⟨i, Nat.le_refl _, hi, Or.inr c2⟩]
        · obtain ⟨n', rfl⟩ : ∃ n', n = n' + 1 := ⟨n - 1, by omega⟩
          rw [if_neg (by omega), w64n (by omega), spec_l0 s hs n' k (i + 1) (by omega) (by omega)]
          have hb : Bad s i ↔ Bad s (i + 1) := bad_skip (fun j hj => by
            obtain rfl : j = 0 := by omega
            simp only [Nat.add_zero]
            omega)
          simp only [hb]
    · rw [if_neg (by omega), if_neg (fun ⟨j, h1, h2, _⟩ => by omega)]
open Classical in
theorem impl_l0 (s : ByteArray) : ∀ n k i, s.size - i ≤ n → n < k → impl_CheckName.l0 k s i = some (if Bad s i then 7 else 0)
  | n, 0, i, _, hk => absurd hk (by omega)
  | n, k + 1, i, hn, hk => by
    rw [impl_CheckName.l0]
    by_cases hi : i < s.size
    · rw [if_pos hi]
      by_cases hb : (s.get! i).toNat < 128
      · rw [dec_small s i hb]
        by_cases c1 : (s.get! i).toNat = 47
        · rw [if_pos c1, if_pos ⟨i, Nat.le_refl _, hi, Or.inl c1⟩]
        · rw [if_neg c1]
          by_cases c2 : (s.get! i).toNat = 0
          · rw [if_pos c2, if_pos ⟨i, Nat.le_refl _, hi, Or.inr c2⟩]
          · obtain ⟨n', rfl⟩ : ∃ n', n = n' + 1 := ⟨n - 1, by omega⟩
            rw [if_neg c2, impl_l0 s n' k (i + 1) (by omega) (by omega)]
            have hb : Bad s i ↔ Bad s (i + 1) := bad_skip (fun j hj => by
              obtain rfl : j = 0 := by omega
              simp only [Nat.add_zero]
              omega)
            simp only [hb]
      · obtain ⟨h1, m, h2, h3⟩ := dec_large s i hi (by omega)
        have := (h3 m (Nat.le_refl _)).1
        obtain ⟨n', rfl⟩ : ∃ n', n = n' + 1 := ⟨n - 1, by omega⟩
        rw [if_neg (by omega), if_neg (by omega), h2, impl_l0 s n' k (i + (m + 1)) (by omega) (by omega)]
        have hb : Bad s i ↔ Bad s (i + (m + 1)) := bad_skip (fun j hj => by
          have := (h3 j (by omega)).2
          omega)
        simp only [hb]
    · rw [if_neg hi, if_neg (fun ⟨j, h1, h2, _⟩ => by omega)]
theorem checkName_eq (s : ByteArray) (k : Nat) (hk : 100 < k) : ∃ r, spec_CheckName.f k s = some r ∧ impl_CheckName.f k s = some r := by
  obtain ⟨k, rfl⟩ : ∃ k', k = k' + 1 := ⟨k - 1, by omega⟩
  unfold spec_CheckName.f impl_CheckName.f
  by_cases c1 : s.toList = ([] : List UInt8)
  · rw [if_pos c1, if_pos c1, spec_CheckName.j0, if_pos rfl]
    exact ⟨_, rfl, rfl⟩
  rw [if_neg c1, if_neg c1]
  by_cases c2 : s.toList = ([46] : List UInt8)
  · rw [if_pos c2, if_pos c2, spec_CheckName.j0, if_pos rfl]
    exact ⟨_, rfl, rfl⟩
  rw [if_neg c2, if_neg c2]
  by_cases c3 : s.toList = ([46, 46] : List UInt8)
  · rw [if_pos c3, spec_CheckName.j0, if_pos (by rw [c3]; rfl)]
    exact ⟨_, rfl, rfl⟩
  rw [if_neg c3, spec_CheckName.j0, if_neg (by simpa using c3)]
  by_cases c4 : (s.size : Int) > 26
  · rw [if_pos c4, if_pos c4]
    exact ⟨_, rfl, rfl⟩
  rw [if_neg c4, if_neg c4]
  have e := spec_l0 s (by omega) 26 k 0 (by omega) (by omega)
  have e' := impl_l0 s 26 (k + 1) 0 (by omega) (by omega)
  exact ⟨_, e, e'⟩
theorem checkName_all (s : ByteArray) (k : Nat) (hk : 100 < k) : ∃ r, spec_CheckName.f k s = some r ∧ impl_CheckName.f k s = some r ∧ (r = 0 → s.size ≤ 26) := by
  obtain ⟨r, h1, h2⟩ := checkName_eq s k hk
  refine ⟨r, h1, h2, fun hr => ?_⟩
  obtain ⟨k, rfl⟩ : ∃ k', k = k' + 1 := ⟨k - 1, by omega⟩
  apply Nat.le_of_not_lt
  intro hlt
  unfold impl_CheckName.f at h2
  by_cases c1 : s.toList = ([] : List UInt8)
  · rw [if_pos c1] at h2
    simp only [Option.some.injEq] at h2
    omega
  rw [if_neg c1] at h2
  by_cases c2 : s.toList = ([46] : List UInt8)
  · rw [if_pos c2] at h2
    simp only [Option.some.injEq] at h2
    omega
  rw [if_neg c2] at h2
  by_cases c3 : s.toList = ([46, 46] : List UInt8)
  · rw [if_pos c3] at h2
    simp only [Option.some.injEq] at h2
    omega
  rw [if_neg c3, if_pos (by omega)] at h2
  simp only [Option.some.injEq] at h2
  omega
open Go.Proofs.YtkghgjehjchajaaDoorW.PrintSnd Go.Proofs.YtkghgjehjchajaaDoorW.PrintDec in
theorem FnExactDecodeSnap : laws_FnExactDecodeSnap.Pure := by
  intro l0 hl0
  have hb : ∀ x ∈ l0, 0 ≤ x ∧ x ≤ 255 := fun x hx => by have := hl0.2 x hx; simpa [Lit.wf, IntKind.min, IntKind.max, IntKind.signed, IntKind.bits] using this
  refine ⟨l0.length + 1, fun hle => ?_⟩
  have hl : l0.length ≤ 1048576 := by omega
  obtain ⟨c, hc1, hc2, hc3⟩ := checkName_all (nameS l0) 200 (by omega)
  obtain ⟨x, s, p, q, r, k, hA⟩ : ∃ x s p q r k, snapA c l0 = (x, s, p, q, r, k) := ⟨_, _, _, _, _, _, rfl⟩
  have hB : snapB c l0 = (x, s, p, q, r, k) := by rw [← snap_same hb c]; exact hA
  have hr : r.length = 15 := decS_root (rootOf_length _ _) hA
  have ht := toByteS_f l0 (l0.length + 1) hl (by omega)
  have he : laws_eqByteS.f (l0.length + 1) l0 l0 = some true := by
    rw [eqByteS_f l0 l0 (l0.length + 1) hl (by omega)]
    simp
  exact ⟨l0, 200, c, x, s, p, q, r, k, l0, l0, ht, hc1, hc2, hc3, hb, hr, hA, hB, rfl, ht, rfl, ht, he⟩

end Go.Proofs.YtkghgjehjchajaaDoor.Pure
