/- The law of EncodeFsinfo answers true at every argument; no condition. -/
import Derived.Test.YtkghgjehjchajaaDoorPFnExactEncodeFsinfox2
namespace Go.Proofs.YtkghgjehjchajaaDoor.Pure
open Go.RowKit Go.Proofs.YtkghgjehjchajaaDoor.PFnExactEncodeFsinfo Go.Proofs.YtkghgjehjchajaaDoorW.PrintWords Go.Proofs.YtkghgjehjchajaaDoorW.PrintLast
set_option linter.unusedVariables false

theorem w64 {x : Int} (h0 : -9223372036854775808 ≤ x) (h1 : x ≤ 9223372036854775807) : wrap64 x = x := by unfold wrap64; omega
theorem w64n {n : Nat} (h : n < 9223372036854775807) : wrap64 ((n : Int) + 1) = ((n + 1 : Nat) : Int) := by unfold wrap64; omega
theorem sucK {n k : Nat} (h : n < k) : ∃ m, k = m + 1 := ⟨k - 1, by omega⟩
theorem rdN (xs : List Int) (i : Nat) : rd xs (i : Int) = xs.getD i 0 := by simp [rd]
theorem rd_some {xs : List Int} {i : Nat} (h : i < xs.length) : rd xs (i : Int) = xs[i] := by rw [rdN, List.getD_eq_getElem?_getD, List.getElem?_eq_getElem h]; rfl

theorem eqByteS_l0 (x0 x1 : List Int) (hn : x0.length < 9223372036854775807) (hl : x0.length = x1.length) : ∀ (d i k : Nat), i + d = x0.length → d < k → laws_eqByteS.l0 k x0 x1 (i : Int) = some (decide (x0.drop i = x1.drop i))
  | 0, i, k, h1, h3 => by
    obtain ⟨k, rfl⟩ := sucK h3
    simp only [laws_eqByteS.l0]
    rw [if_neg (by omega), List.drop_eq_nil_of_le (by omega), List.drop_eq_nil_of_le (by omega)]
    simp
  | d + 1, i, k, h1, h3 => by
    obtain ⟨k, rfl⟩ := sucK h3
    simp only [laws_eqByteS.l0]
    have hi : i < x0.length := by omega
    have hi1 : i < x1.length := by omega
    have hd0 := List.drop_eq_getElem_cons hi
    have hd1 := List.drop_eq_getElem_cons hi1
    rw [if_pos (by omega), if_pos (by omega), if_pos (by omega), w64n (by omega), eqByteS_l0 x0 x1 hn hl d (i + 1) k (by omega) (by omega), rd_some hi, rd_some hi1]
    by_cases h : x0[i] = x1[i]
    · rw [if_pos h]
      simp only [hd0, hd1, List.cons.injEq, h, true_and]
    · rw [if_neg h]
      simp only [hd0, hd1, List.cons.injEq, h, false_and, decide_false]
theorem eqByteS_f (a b : List Int) (k : Nat) (hn : a.length ≤ 1048576) (hk : a.length < k) : laws_eqByteS.f k a b = some (decide (a = b)) := by
  unfold laws_eqByteS.f
  by_cases h : a.length = b.length
  · rw [if_pos (by omega)]
    exact eqByteS_l0 a b (by omega) h a.length 0 k (by omega) hk
  · rw [if_neg (by omega)]
    have : a ≠ b := fun e => h (by rw [e])
    simp [this]

/-- what mark leaves -/
theorem markByteS_l0 (hn : ∀ x : Int, True) : ∀ (d i k : Nat) (x0 : List Int) (m : Nat), i + d = x0.length → d < k → m + d < 9223372036854775807 → i + d < 9223372036854775807 → laws_markByteS.l0 k x0 (m : Int) (i : Int) = some (((m + d : Nat) : Int), x0.take i ++ (List.range' m d).map (fun (q : Nat) => (q : Int) % 256))
  | 0, i, k, x0, m, h1, h3, h4, h5 => by
    obtain ⟨k, rfl⟩ := sucK h3
    simp only [laws_markByteS.l0]
    rw [if_neg (by omega), List.take_of_length_le (by omega)]
    simp
  | d + 1, i, k, x0, m, h1, h3, h4, h5 => by
    obtain ⟨k, rfl⟩ := sucK h3
    simp only [laws_markByteS.l0]
    rw [if_pos (by omega), if_pos (by omega), w64n (by omega), w64n (by omega), markByteS_l0 hn d (i + 1) k _ (m + 1) (by simpa using (by omega)) (by omega) (by omega) (by omega)]
    rw [show ((i : Int)).toNat = i from by omega]
    congr 2
    · omega
    · rw [List.range'_succ, List.map_cons, List.take_succ_eq_append_getElem (by simpa using (by omega)), List.getElem_set_self, List.take_set_of_le (Nat.le_refl i), List.append_assoc]
      rfl
theorem markByteS_f (l : List Int) (m k : Nat) (hn : l.length ≤ 1048576) (hm : m ≤ 1099511627776) (hk : l.length < k) : laws_markByteS.f k l (m : Int) = some (((m + l.length : Nat) : Int), (List.range' m l.length).map (fun (q : Nat) => (q : Int) % 256)) := by
  unfold laws_markByteS.f
  have h := markByteS_l0 (fun _ => trivial) l.length 0 k l m (by omega) hk (by omega) (by omega)
  rw [List.take_zero, List.nil_append] at h
  exact h

theorem heldByteS_l0 (n m0 : Nat) (x0 : List Int) (hx : x0 = (List.range' m0 n).map (fun (q : Nat) => (q : Int) % 256)) : ∀ (d i k : Nat), i + d = n → d < k → m0 + n < 9223372036854775807 → laws_heldByteS.l0 k x0 ((m0 + i : Nat) : Int) (i : Int) = some ((m0 + n : Nat) : Int)
  | 0, i, k, h1, h3, h4 => by
    obtain ⟨k, rfl⟩ := sucK h3
    have hl : x0.length = n := by rw [hx]; simp
    simp only [laws_heldByteS.l0]
    rw [if_neg (by omega), show m0 + i = m0 + n by omega]
  | d + 1, i, k, h1, h3, h4 => by
    obtain ⟨k, rfl⟩ := sucK h3
    have hl : x0.length = n := by rw [hx]; simp
    have hi : i < x0.length := by omega
    have hv : rd x0 (i : Int) = (fun (q : Nat) => (q : Int) % 256) (m0 + i) := by
      rw [rd_some hi]
      simp only [hx, List.getElem_map, List.getElem_range', Nat.one_mul]
    simp only [laws_heldByteS.l0]
    rw [if_pos (by omega), if_pos (by omega), if_pos hv, w64n (by omega), w64n (by omega)]
    exact heldByteS_l0 n m0 x0 hx d (i + 1) k (by omega) (by omega) h4
theorem heldByteS_f (n m k : Nat) (hn : n ≤ 1048576) (hm : m ≤ 1099511627776) (hk : n < k) : laws_heldByteS.f k ((List.range' m n).map (fun (q : Nat) => (q : Int) % 256)) (m : Int) = some ((m + n : Nat) : Int) := by
  unfold laws_heldByteS.f
  exact heldByteS_l0 n m _ rfl n 0 k (by omega) hk (by omega)

/-- what a law asks of bytes that were handed back: written over and read again -/
theorem byte_law (l : List Int) (hl : l.length ≤ 1048576) (k : Nat) (hk : l.length < k) : laws_eqByteS.f k l l = some true ∧ laws_markByteS.f k l 1 = some (((1 + l.length : Nat) : Int), (List.range' 1 l.length).map (fun (q : Nat) => (q : Int) % 256)) ∧ laws_heldByteS.f k ((List.range' 1 l.length).map (fun (q : Nat) => (q : Int) % 256)) 1 = some ((1 + l.length : Nat) : Int) := by
  refine ⟨?_, markByteS_f l 1 k hl (by decide) hk, heldByteS_f l.length 1 k hl (by decide) hk⟩
  rw [eqByteS_f l l k hl hk]
  simp
theorem FnExactEncodeFsinfo : laws_FnExactEncodeFsinfo.Pure := by
  intro a0 ha
  have ht : laws_toFsinfo.f a0 = some a0 := if_pos ha.1
  obtain ⟨p, hp⟩ : ∃ p : List Int × Int, p = (if Go.Proofs.YtkghgjehjchajaaDoorW.PrintFsi.fsGood a0 = true then (Go.Proofs.YtkghgjehjchajaaDoorW.PrintFsb.fsFill a0 ++ Go.Proofs.YtkghgjehjchajaaDoorW.PrintLe.leB (Go.Proofs.YtkghgjehjchajaaDoorW.PrintCrc.crcV (Go.Proofs.YtkghgjehjchajaaDoorW.PrintFsb.fsFill a0)) 4, 0) else ([], 7)) := ⟨_, rfl⟩
  have hl : p.1.length ≤ 1048576 := by
    rw [hp]
    split
    · rw [List.length_append, Go.Proofs.YtkghgjehjchajaaDoorW.PrintFsb.fsFill_length ha.1, Go.Proofs.YtkghgjehjchajaaDoorW.PrintLe.leB_length]
      decide
    · exact Nat.zero_le _
  have h1 : spec_EncodeFsinfo.f a0 = some (p.1, p.2) := by rw [hp]; rfl
  have h2 : impl_EncodeFsinfo.f a0 = some (p.1, p.2) := by rw [hp]; rfl
  obtain ⟨e1, e2, e3⟩ := byte_law p.1 hl (p.1.length + 1) (by omega)
  exact ⟨p.1.length + 1, a0, p.1, p.2, a0, p.1, _, _, a0, p.1, ha.1, ht, h1, ha.1, ht, h2, e1, e2, e3, ha.1, ht, h2, e1, e3, by omega, by omega⟩

end Go.Proofs.YtkghgjehjchajaaDoor.Pure
