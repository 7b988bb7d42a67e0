/- The law of DecodeTable answers true for every slice of bytes; no condition. -/
import Derived.Test.YtkghgjehjchajaaPFnExactDecodeTablex12
namespace Go.Proofs.Ytkghgjehjchajaa.Pure
open Go.RowKit Go.Proofs.Ytkghgjehjchajaa.PFnExactDecodeTable Go.Proofs.YtkghgjehjchajaaW.PrintWords Go.Proofs.YtkghgjehjchajaaW.PrintLast
set_option linter.unusedVariables false

theorem w64 {x : Int} (h0 : -9223372036854775808 ≤ x) (h1 : x ≤ 9223372036854775807) : wrap64 x = x := by unfold wrap64; omega
theorem w64n {n : Nat} (h : n < 9223372036854775807) : wrap64 ((n : Int) + 1) = ((n + 1 : Nat) : Int) := by unfold wrap64; omega
theorem sucK {n k : Nat} (h : n < k) : ∃ m, k = m + 1 := ⟨k - 1, by omega⟩
theorem rdN (xs : List Int) (i : Nat) : rd xs (i : Int) = xs.getD i 0 := by simp [rd]
theorem rd_some {xs : List Int} {i : Nat} (h : i < xs.length) : rd xs (i : Int) = xs[i] := by rw [rdN, List.getD_eq_getElem?_getD, List.getElem?_eq_getElem h]; rfl

theorem toByteS_l0 (x0 : List Int) (hn : x0.length < 9223372036854775807) : ∀ (d i k : Nat) (x3 : List Int), i + d = x0.length → x3.length = x0.length → d < k → laws_toByteS.l0 k x0 x3 (i : Int) = some (x3.take i ++ x0.drop i)
  | 0, i, k, x3, h1, h2, h3 => by
    obtain ⟨k, rfl⟩ := sucK h3
    simp only [laws_toByteS.l0]
    rw [if_neg (by omega), List.take_of_length_le (by omega), List.drop_eq_nil_of_le (by omega), List.append_nil]
  | d + 1, i, k, x3, h1, h2, h3 => by
    obtain ⟨k, rfl⟩ := sucK h3
    simp only [laws_toByteS.l0]
    rw [if_pos (by omega), if_pos (by omega), if_pos (by omega), w64n (by omega), toByteS_l0 x0 hn d (i + 1) k _ (by omega) (by simpa using h2) (by omega)]
    have hi : i < x0.length := by omega
    rw [Int.toNat_natCast, rd_some hi, List.take_succ_eq_append_getElem (by rw [List.length_set]; omega), List.getElem_set_self, List.take_set_of_le (Nat.le_refl i), List.append_assoc, List.drop_eq_getElem_cons hi]
    rfl
theorem toByteS_f (l : List Int) (k : Nat) (hn : l.length ≤ 1048576) (hk : l.length < k) : laws_toByteS.f k l = some l := by
  unfold laws_toByteS.f
  rw [if_pos (by omega), if_pos (by omega)]
  have h := toByteS_l0 l (by omega) l.length 0 k (List.replicate ((l.length : Int)).toNat 0) (by omega) (by simp) hk
  rw [List.take_zero, List.drop_zero, List.nil_append] at h
  exact h

theorem eqByteS_l0 (x0 x1 : List Int) (hn : x0.length < 9223372036854775807) (hl : x0.length = x1.length) : ∀ (d i k : Nat), i + d = x0.length → d < k → laws_eqByteS.l0 k x0 x1 (i : Int) = some (decide (x0.drop i = x1.drop i))
  | 0, i, k, h1, h3 => by
    obtain ⟨k, rfl⟩ := sucK h3
    simp only [laws_eqByteS.l0]
    rw [if_neg (by omega), List.drop_eq_nil_of_le (by omega), List.drop_eq_nil_of_le (by omega)]
    simp
  | d + 1, i, k, h1, h3 => by
    obtain ⟨k, rfl⟩ := sucK h3
    simp only [laws_eqByteS.l0]
    have hi : i < x0.length := by omega
    have hi1 : i < x1.length := by omega
    have hd0 := List.drop_eq_getElem_cons hi
    have hd1 := List.drop_eq_getElem_cons hi1
    rw [if_pos (by omega), if_pos (by omega), if_pos (by omega), w64n (by omega), eqByteS_l0 x0 x1 hn hl d (i + 1) k (by omega) (by omega), rd_some hi, rd_some hi1]
    by_cases h : x0[i] = x1[i]
    · rw [if_pos h]
      simp only [hd0, hd1, List.cons.injEq, h, true_and]
    · rw [if_neg h]
      simp only [hd0, hd1, List.cons.injEq, h, false_and, decide_false]
theorem eqByteS_f (a b : List Int) (k : Nat) (hn : a.length ≤ 1048576) (hk : a.length < k) : laws_eqByteS.f k a b = some (decide (a = b)) := by
  unfold laws_eqByteS.f
  by_cases h : a.length = b.length
  · rw [if_pos (by omega)]
    exact eqByteS_l0 a b (by omega) h a.length 0 k (by omega) hk
  · rw [if_neg (by omega)]
    have : a ≠ b := fun e => h (by rw [e])
    simp [this]

/-- what mark leaves -/
theorem markByteS_l0 (hn : ∀ x : Int, True) : ∀ (d i k : Nat) (x0 : List Int) (m : Nat), i + d = x0.length → d < k → m + d < 9223372036854775807 → i + d < 9223372036854775807 → laws_markByteS.l0 k x0 (m : Int) (i : Int) = some (((m + d : Nat) : Int), x0.take i ++ (List.range' m d).map (fun (q : Nat) => (q : Int) % 256))
  | 0, i, k, x0, m, h1, h3, h4, h5 => by
    obtain ⟨k, rfl⟩ := sucK h3
    simp only [laws_markByteS.l0]
    rw [if_neg (by omega), List.take_of_length_le (by omega)]
    simp
  | d + 1, i, k, x0, m, h1, h3, h4, h5 => by
    obtain ⟨k, rfl⟩ := sucK h3
    simp only [laws_markByteS.l0]
    rw [if_pos (by omega), if_pos (by omega), w64n (by omega), w64n (by omega), markByteS_l0 hn d (i + 1) k _ (m + 1) (by simpa using (by omega)) (by omega) (by omega) (by omega)]
    rw [show ((i : Int)).toNat = i from by omega]
    congr 2
    · omega
    · rw [List.range'_succ, List.map_cons, List.take_succ_eq_append_getElem (by simpa using (by omega)), List.getElem_set_self, List.take_set_of_le (Nat.le_refl i), List.append_assoc]
      rfl
theorem markByteS_f (l : List Int) (m k : Nat) (hn : l.length ≤ 1048576) (hm : m ≤ 1099511627776) (hk : l.length < k) : laws_markByteS.f k l (m : Int) = some (((m + l.length : Nat) : Int), (List.range' m l.length).map (fun (q : Nat) => (q : Int) % 256)) := by
  unfold laws_markByteS.f
  have h := markByteS_l0 (fun _ => trivial) l.length 0 k l m (by omega) hk (by omega) (by omega)
  rw [List.take_zero, List.nil_append] at h
  exact h
open Go.Proofs.YtkghgjehjchajaaW.PrintLe Go.Proofs.YtkghgjehjchajaaW.PrintDec Go.Proofs.YtkghgjehjchajaaW.PrintTabl Go.Proofs.YtkghgjehjchajaaW.PrintTab2 Go.Proofs.YtkghgjehjchajaaW.PrintTab3
theorem FnExactDecodeTable : laws_FnExactDecodeTable.Pure := by
  intro l0 ha
  refine ⟨l0.length + 1, fun hc => ?_⟩
  have hn : l0.length ≤ 1048576 := by omega
  have hb : ∀ x ∈ l0, 0 ≤ x ∧ x ≤ 255 := fun x hx => by have := ha.2 x hx; simpa [Lit.wf, IntKind.min, IntKind.max, IntKind.signed, IntKind.bits] using this
  have ht := toByteS_f l0 (l0.length + 1) hn (by omega)
  have he := eqByteS_f l0 l0 (l0.length + 1) (by omega) (by omega)
  have hm := markByteS_f l0 1 (l0.length + 1) hn (by decide) (by omega)
  obtain ⟨p, hp⟩ : ∃ p : List (List Int) × Int, p = decTable l0 := ⟨_, rfl⟩
  have h1 : spec_DecodeTable.f l0 = some (p.1, p.2) := by rw [hp]; exact if_pos hb
  have h2 : impl_DecodeTable.f l0 = some (p.1, p.2) := by rw [hp]; exact if_pos hb
  have hl : p.1.length ≤ 1048576 := by
    rw [hp]
    unfold decTable
    split
    · show (rowsTo l0 _).length ≤ _
      rw [rowsTo_length]
      omega
    · exact Nat.zero_le _
  have h3 : laws_eqInodeS.f p.1 p.1 = some true := if_pos rfl
  have h4 : laws_markInodeS.f p.1 1 = some (((1 + 24 * p.1.length : Nat) : Int), marks 1 p.1.length) := if_pos ⟨rfl, hl⟩
  have h5 : laws_heldInodeS.f (marks 1 p.1.length) 1 = some (((1 + 24 * p.1.length : Nat) : Int)) := by
    unfold laws_heldInodeS.f
    rw [if_pos ⟨rfl, by rw [marks_length]; exact hl, by rw [marks_length]⟩, marks_length]
  exact ⟨l0, p.1, p.2, l0, p.1, l0, _, _, _, _, l0, p.1, ht, h1, ht, h2, h3, ht, he.trans (by simp), hm, h3, h4, h5, ht, h2, h3, h5, by omega, by omega, by omega⟩

end Go.Proofs.Ytkghgjehjchajaa.Pure
