/- The law of EncodeTable answers true at every argument; no condition. -/
import Derived.Test.YtkghgjehjchajaaPFnExactEncodeTablex14
namespace Go.Proofs.Ytkghgjehjchajaa.Pure
open Go.RowKit Go.Proofs.Ytkghgjehjchajaa.PFnExactEncodeTable Go.Proofs.YtkghgjehjchajaaW.PrintWords Go.Proofs.YtkghgjehjchajaaW.PrintLast
set_option linter.unusedVariables false

theorem w64 {x : Int} (h0 : -9223372036854775808 ≤ x) (h1 : x ≤ 9223372036854775807) : wrap64 x = x := by unfold wrap64; omega
theorem w64n {n : Nat} (h : n < 9223372036854775807) : wrap64 ((n : Int) + 1) = ((n + 1 : Nat) : Int) := by unfold wrap64; omega
theorem sucK {n k : Nat} (h : n < k) : ∃ m, k = m + 1 := ⟨k - 1, by omega⟩
theorem rdN (xs : List Int) (i : Nat) : rd xs (i : Int) = xs.getD i 0 := by simp [rd]
theorem rd_some {xs : List Int} {i : Nat} (h : i < xs.length) : rd xs (i : Int) = xs[i] := by rw [rdN, List.getD_eq_getElem?_getD, List.getElem?_eq_getElem h]; rfl

theorem eqByteS_l0 (x0 x1 : List Int) (hn : x0.length < 9223372036854775807) (hl : x0.length = x1.length) : ∀ (d i k : Nat), i + d = x0.length → d < k → laws_eqByteS.l0 k x0 x1 (i : Int) = some (decide (x0.drop i = x1.drop i))
  | 0, i, k, h1, h3 => by
    obtain ⟨k, rfl⟩ := sucK h3
    simp only [laws_eqByteS.l0]
    rw [if_neg (by omega), List.drop_eq_nil_of_le (by omega), List.drop_eq_nil_of_le (by omega)]
    simp
  | d + 1, i, k, h1, h3 => by
    obtain ⟨k, rfl⟩ := sucK h3
    simp only [laws_eqByteS.l0]
    have hi : i < x0.length := by omega
    have hi1 : i < x1.length := by omega
    have hd0 := List.drop_eq_getElem_cons hi
    have hd1 := List.drop_eq_getElem_cons hi1
    rw [if_pos (by omega), if_pos (by omega), if_pos (by omega), w64n (by omega), eqByteS_l0 x0 x1 hn hl d (i + 1) k (by omega) (by omega), rd_some hi, rd_some hi1]
    by_cases h : x0[i] = x1[i]
    · rw [if_pos h]
      simp only [hd0, hd1, List.cons.injEq, h, true_and]
    · rw [if_neg h]
      simp only [hd0, hd1, List.cons.injEq, h, false_and, decide_false]
theorem eqByteS_f (a b : List Int) (k : Nat) (hn : a.length ≤ 1048576) (hk : a.length < k) : laws_eqByteS.f k a b = some (decide (a = b)) := by
  unfold laws_eqByteS.f
  by_cases h : a.length = b.length
  · rw [if_pos (by omega)]
    exact eqByteS_l0 a b (by omega) h a.length 0 k (by omega) hk
  · rw [if_neg (by omega)]
    have : a ≠ b := fun e => h (by rw [e])
    simp [this]

/-- what mark leaves -/
theorem markByteS_l0 (hn : ∀ x : Int, True) : ∀ (d i k : Nat) (x0 : List Int) (m : Nat), i + d = x0.length → d < k → m + d < 9223372036854775807 → i + d < 9223372036854775807 → laws_markByteS.l0 k x0 (m : Int) (i : Int) = some (((m + d : Nat) : Int), x0.take i ++ (List.range' m d).map (fun (q : Nat) => (q : Int) % 256))
  | 0, i, k, x0, m, h1, h3, h4, h5 => by
    obtain ⟨k, rfl⟩ := sucK h3
    simp only [laws_markByteS.l0]
    rw [if_neg (by omega), List.take_of_length_le (by omega)]
    simp
  | d + 1, i, k, x0, m, h1, h3, h4, h5 => by
    obtain ⟨k, rfl⟩ := sucK h3
    simp only [laws_markByteS.l0]
    rw [if_pos (by omega), if_pos (by omega), w64n (by omega), w64n (by omega), markByteS_l0 hn d (i + 1) k _ (m + 1) (by simpa using (by omega)) (by omega) (by omega) (by omega)]
    rw [show ((i : Int)).toNat = i from by omega]
    congr 2
    · omega
    · rw [List.range'_succ, List.map_cons, List.take_succ_eq_append_getElem (by simpa using (by omega)), List.getElem_set_self, List.take_set_of_le (Nat.le_refl i), List.append_assoc]
      rfl
theorem markByteS_f (l : List Int) (m k : Nat) (hn : l.length ≤ 1048576) (hm : m ≤ 1099511627776) (hk : l.length < k) : laws_markByteS.f k l (m : Int) = some (((m + l.length : Nat) : Int), (List.range' m l.length).map (fun (q : Nat) => (q : Int) % 256)) := by
  unfold laws_markByteS.f
  have h := markByteS_l0 (fun _ => trivial) l.length 0 k l m (by omega) hk (by omega) (by omega)
  rw [List.take_zero, List.nil_append] at h
  exact h

theorem heldByteS_l0 (n m0 : Nat) (x0 : List Int) (hx : x0 = (List.range' m0 n).map (fun (q : Nat) => (q : Int) % 256)) : ∀ (d i k : Nat), i + d = n → d < k → m0 + n < 9223372036854775807 → laws_heldByteS.l0 k x0 ((m0 + i : Nat) : Int) (i : Int) = some ((m0 + n : Nat) : Int)
  | 0, i, k, h1, h3, h4 => by
    obtain ⟨k, rfl⟩ := sucK h3
    have hl : x0.length = n := by rw [hx]; simp
    simp only [laws_heldByteS.l0]
    rw [if_neg (by omega), show m0 + i = m0 + n by omega]
  | d + 1, i, k, h1, h3, h4 => by
    obtain ⟨k, rfl⟩ := sucK h3
    have hl : x0.length = n := by rw [hx]; simp
    have hi : i < x0.length := by omega
    have hv : rd x0 (i : Int) = (fun (q : Nat) => (q : Int) % 256) (m0 + i) := by
      rw [rd_some hi]
      simp only [hx, List.getElem_map, List.getElem_range', Nat.one_mul]
    simp only [laws_heldByteS.l0]
    rw [if_pos (by omega), if_pos (by omega), if_pos hv, w64n (by omega), w64n (by omega)]
    exact heldByteS_l0 n m0 x0 hx d (i + 1) k (by omega) (by omega) h4
theorem heldByteS_f (n m k : Nat) (hn : n ≤ 1048576) (hm : m ≤ 1099511627776) (hk : n < k) : laws_heldByteS.f k ((List.range' m n).map (fun (q : Nat) => (q : Int) % 256)) (m : Int) = some ((m + n : Nat) : Int) := by
  unfold laws_heldByteS.f
  exact heldByteS_l0 n m _ rfl n 0 k (by omega) hk (by omega)

/-- what a law asks of bytes that were handed back: written over and read again -/
theorem byte_law (l : List Int) (hl : l.length ≤ 1048576) (k : Nat) (hk : l.length < k) : laws_eqByteS.f k l l = some true ∧ laws_markByteS.f k l 1 = some (((1 + l.length : Nat) : Int), (List.range' 1 l.length).map (fun (q : Nat) => (q : Int) % 256)) ∧ laws_heldByteS.f k ((List.range' 1 l.length).map (fun (q : Nat) => (q : Int) % 256)) 1 = some ((1 + l.length : Nat) : Int) := by
  refine ⟨?_, markByteS_f l 1 k hl (by decide) hk, heldByteS_f l.length 1 k hl (by decide) hk⟩
  rw [eqByteS_f l l k hl hk]
  simp

theorem szInodeS_f (l : List (List Int)) (hl : l.length ≤ 9223372036854775807) : laws_szInodeS.f l 1048576 = some (if 1048576 < l.length then -1 else 1048576 - (l.length : Int)) := by
  unfold laws_szInodeS.f
  rw [w64 (by omega) (by omega)]
  by_cases h : 1048576 < l.length
  · rw [if_pos (by omega), if_pos h]
  · rw [if_neg (by omega), if_neg h]
theorem szInodeS_small (l : List (List Int)) (h : ¬ ((if 1048576 < l.length then (-1 : Int) else 1048576 - (l.length : Int)) < 0)) : l.length ≤ 1048576 := by
  by_cases hc : 1048576 < l.length
  · rw [if_pos hc] at h
    omega
  · omega
theorem toInodeS_f (l : List (List Int)) (h : l.length ≤ 1048576) : laws_toInodeS.f l = some l := if_pos (by omega)
open Go.Proofs.YtkghgjehjchajaaW.PrintTabl Go.Proofs.YtkghgjehjchajaaW.PrintTab2
theorem FnExactEncodeTable : laws_FnExactEncodeTable.Pure := by
  intro l0 hl0
  obtain ⟨p, hp⟩ : ∃ p : List Int × Int, p = (if tableGood l0 = true then (tableBytes l0, 0) else ([], 7)) := ⟨_, rfl⟩
  have hw : ∀ x ∈ l0, x.length = 24 := fun x hx => (hl0.2 x hx).1
  have hl : p.1.length ≤ 1048576 := by
    rw [hp]
    split
    · rename_i hg
      unfold tableGood at hg
      simp only [Bool.and_eq_true, decide_eq_true_eq] at hg
      show (tableBytes l0).length ≤ 1048576
      unfold tableBytes
      rw [tableBytesTo_length hw]
      omega
    · exact Nat.zero_le _
  obtain ⟨e1, e2, e3⟩ := byte_law p.1 hl (p.1.length + 1) (by omega)
  refine ⟨p.1.length + 1, _, szInodeS_f l0 (by have := hl0.1; simp only [maxLen] at this; omega), fun hn => ?_⟩
  have hs := szInodeS_small l0 hn
  have ht := toInodeS_f l0 hs
  have h1 : spec_EncodeTable.f l0 = some (p.1, p.2) := by rw [hp]; rfl
  have h2 : impl_EncodeTable.f l0 = some (p.1, p.2) := by rw [hp]; rfl
  have h3 : laws_eqInodeS.f l0 l0 = some true := if_pos rfl
  have h4 : laws_markInodeS.f l0 1 = some (((1 + 24 * l0.length : Nat) : Int), marks 1 l0.length) := if_pos ⟨rfl, hs⟩
  exact ⟨l0, p.1, p.2, l0, p.1, l0, _, _, _, _, l0, p.1, ht, h1, ht, h2, e1, ht, h3, h4, e1, e2, e3, ht, h2, e1, e3, by omega, by omega, by omega⟩

end Go.Proofs.Ytkghgjehjchajaa.Pure
