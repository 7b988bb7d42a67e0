/- What bytes say: a root. No condition. -/
import Derived.Test.YtkghgjehjchajaaWLe
namespace Go.Proofs.YtkghgjehjchajaaW.PrintDec
open Go.RowKit Go.Proofs.YtkghgjehjchajaaW.PrintWords Go.Proofs.YtkghgjehjchajaaW.PrintHand Go.Proofs.YtkghgjehjchajaaW.PrintHx Go.Proofs.YtkghgjehjchajaaW.PrintLe
set_option linter.unusedVariables false
set_option linter.unusedSimpArgs false
/-- l02Get's number -/
def gcap (l : List Int) : Int := if le l < 18014398509481984 then le l else 4611686018427387904
def rootVals (l : List Int) : List Int := (List.range 12).map fun k => le (seg l (8 + 4 * k) 4)
/-- The root that 64 bytes say, its size by f. -/
def rootOf (f : List Int → Int) (l : List Int) : List Int := f (seg l 0 8) :: (rootVals l ++ [le (seg l 56 4), le (seg l 60 4)])
def rootA (l : List Int) : List Int := rootOf gcap l
def rootB (l : List Int) : List Int := rootOf (fun x => wrap64 (le x)) l
theorem rootOf_length (f : List Int → Int) (l : List Int) : (rootOf f l).length = 15 := by simp [rootOf, rootVals]
theorem seg_byt {l : List Int} (h : Byt l) (o m : Nat) : Byt (seg l o m) := (h.drop o).take m
theorem seg_le {l : List Int} (o m : Nat) (h : o + m ≤ l.length) : (seg l o m).length = m := by
  unfold seg
  rw [List.length_take, List.length_drop]
  omega
theorem take_drop (l : List Int) (a b : Nat) : (l.take b).drop a = seg l a (b - a) := by
  unfold seg
  rw [List.drop_take]
theorem le4 {l : List Int} (h : Byt l) (hl : l.length ≤ 4) : 0 ≤ le l ∧ le l < 4294967296 := by
  have h1 := le_nonneg h
  have h2 := le_lt h
  have h3 : (256 : Int) ^ l.length ≤ 256 ^ 4 := p256_le hl
  rw [show (256 : Int) ^ 4 = 4294967296 by decide] at h3
  omega
theorem gcap4 {l : List Int} (h : Byt l) (hl : l.length ≤ 4) : gcap l = le l := by
  have := le4 h hl
  unfold gcap
  rw [if_pos (by omega)]
theorem wrap4 {l : List Int} (h : Byt l) (hl : l.length ≤ 4) : wrap64 (le l) = le l := by
  have := le4 h hl
  unfold wrap64
  omega
/-- What is decoded: the root and its code. -/
def decR (r : List Int) (l : List Int) : List Int × Int := if l.length = 64 ∧ rootGood r = true ∧ rootBytes r = l then (r, 0) else (List.replicate 15 0, 21)
theorem rootA_size (l : List Int) : (rootA l).getD 0 0 = gcap (seg l 0 8) := rfl
theorem rootB_size (l : List Int) : (rootB l).getD 0 0 = wrap64 (le (seg l 0 8)) := rfl
/-- Both read one root, where it is right. -/
theorem decR_same {l : List Int} (h : Byt l) : decR (rootA l) l = decR (rootB l) l := by
  by_cases hc : le (seg l 0 8) < 18014398509481984
  · have h0 := le_nonneg (seg_byt h 0 8)
    have e : rootA l = rootB l := by
      unfold rootA rootB rootOf gcap
      rw [if_pos hc]
      show _ = wrap64 (le (seg l 0 8)) :: _
      rw [show wrap64 (le (seg l 0 8)) = le (seg l 0 8) by unfold wrap64; omega]
    rw [e]
  · by_cases hl : l.length = 64
    · have h0 := le_nonneg (seg_byt h 0 8)
      have h1 := le_lt (seg_byt h 0 8)
      rw [seg_le 0 8 (by omega), show (256 : Int) ^ 8 = 18446744073709551616 by decide] at h1
      have ga : rootGood (rootA l) = false := by
        refine rootGood_high ?_
        rw [rootA_size, gcap, if_neg hc]
        decide
      have gb : rootGood (rootB l) = false := by
        by_cases hs : le (seg l 0 8) ≤ 9223372036854775807
        · refine rootGood_high ?_
          rw [rootB_size, show wrap64 (le (seg l 0 8)) = le (seg l 0 8) by unfold wrap64; omega]
          omega
        · refine rootGood_low ?_
          rw [rootB_size, show wrap64 (le (seg l 0 8)) = le (seg l 0 8) - 18446744073709551616 by unfold wrap64; omega]
          omega
      unfold decR
      rw [if_neg (by rw [ga]; simp), if_neg (by rw [gb]; simp)]
    · unfold decR
      rw [if_neg (fun h_ => hl h_.1), if_neg (fun h_ => hl h_.1)]
/-- The array, filled from its first place on. -/
def filled (d : List Int) (j : Nat) : List Int := d.take j ++ List.replicate (12 - j) 0
theorem filled_next {d : List Int} (hd : d.length = 12) (j : Nat) (hj : j < 12) (a b c : Int) : (a :: (filled d j ++ [b, c])).set (1 + j) (d.getD j 0) = a :: (filled d (j + 1) ++ [b, c]) := by
  have hl : j < d.length := by omega
  rw [show 1 + j = j + 1 by omega, List.set_cons_succ]
  congr 1
  unfold filled
  rw [List.append_assoc, List.set_append_right _ _ (by rw [List.length_take]; omega), List.length_take, Nat.min_eq_left (by omega), Nat.sub_self, show 12 - j = (12 - (j + 1)) + 1 by omega, List.replicate_succ, List.cons_append, List.set_cons_zero, List.take_succ_eq_append_getElem hl, List.append_assoc, List.append_assoc, List.getD_eq_getElem?_getD, List.getElem?_eq_getElem hl]
  rfl
theorem filled_zero (d : List Int) (a b c : Int) : a :: (filled d 0 ++ [b, c]) = [a, 0, 0, 0, 0, 0, 0, 0, 0, 0, 0, 0, 0, b, c] := rfl
theorem filled_all {d : List Int} (hd : d.length = 12) : filled d 12 = d := by
  unfold filled
  rw [List.take_of_length_le (by omega)]
  simp
theorem filled_length {d : List Int} (hd : d.length = 12) (j : Nat) (hj : j ≤ 12) (a b c : Int) : (a :: (filled d j ++ [b, c])).length = 15 := by
  simp [filled, hd]
  omega
theorem rootVals_length (l : List Int) : (rootVals l).length = 12 := by simp [rootVals]
theorem rootVals_get (l : List Int) (j : Nat) (hj : j < 12) : (rootVals l).getD j 0 = le (seg l (8 + 4 * j) 4) := by
  simp [rootVals, hj]
end Go.Proofs.YtkghgjehjchajaaW.PrintDec
namespace Go.Proofs.YtkghgjehjchajaaW.PrintDec
open Go.RowKit Go.Proofs.YtkghgjehjchajaaW.PrintWords Go.Proofs.YtkghgjehjchajaaW.PrintHand Go.Proofs.YtkghgjehjchajaaW.PrintHx Go.Proofs.YtkghgjehjchajaaW.PrintLe
set_option linter.unusedVariables false
set_option linter.unusedSimpArgs false
theorem strOf_list (l : List Int) : (strOfNums l).toList = l.map (fun n => UInt8.ofNat n.toNat) := by
  rw [ByteArray.toList_eq]
  simp [strOfNums]
theorem byte_inj {x y : Int} (hx : 0 ≤ x ∧ x ≤ 255) (hy : 0 ≤ y ∧ y ≤ 255) (h : UInt8.ofNat x.toNat = UInt8.ofNat y.toNat) : x = y := by
  have h2 := congrArg UInt8.toNat h
  rw [UInt8.toNat_ofNat', UInt8.toNat_ofNat'] at h2
  omega
theorem map_inj : ∀ {a b : List Int}, Byt a → Byt b → a.map (fun n => UInt8.ofNat n.toNat) = b.map (fun n => UInt8.ofNat n.toNat) → a = b
  | [], [], _, _, _ => rfl
  | [], _ :: _, _, _, h => by simp at h
  | _ :: _, [], _, _, h => by simp at h
  | x :: a, y :: b, ha, hb, h => by
    simp only [List.map_cons, List.cons.injEq] at h
    rw [byte_inj (ha x (by simp)) (hb y (by simp)) h.1, map_inj ha.tail hb.tail h.2]
theorem strOf_eq {a b : List Int} (ha : Byt a) (hb : Byt b) : ((strOfNums a).toList == (strOfNums b).toList) = decide (a = b) := by
  rw [strOf_list, strOf_list]
  by_cases h : a = b
  · subst h
    simp
  · rw [decide_eq_false h, beq_eq_false_iff_ne]
    exact fun e => h (map_inj ha hb e)
theorem strOf_ne {a b : List Int} (ha : Byt a) (hb : Byt b) : ((strOfNums a).toList != (strOfNums b).toList) = !decide (a = b) := by
  rw [bne, strOf_eq ha hb]
theorem flat4_byt : ∀ (l : List Int), Byt (flat4 l)
  | [] => fun x hx => by simp [flat4] at hx
  | v :: vs => fun x hx => by
    simp only [flat4] at hx
    rcases List.mem_append.1 hx with h | h
    · exact leB_byt v 4 x h
    · exact flat4_byt vs x h
theorem rootBytes_byt (a : List Int) : Byt (rootBytes a) := fun x hx => by
  unfold rootBytes at hx
  rcases List.mem_append.1 hx with h | h
  · exact leB_byt _ 8 x h
  · exact flat4_byt _ x h
end Go.Proofs.YtkghgjehjchajaaW.PrintDec
