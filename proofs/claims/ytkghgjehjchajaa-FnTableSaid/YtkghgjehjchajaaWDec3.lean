/- What bytes say: an inode. No condition. -/
import Derived.Test.YtkghgjehjchajaaWDec
import Derived.Test.YtkghgjehjchajaaWIno
namespace Go.Proofs.YtkghgjehjchajaaW.PrintDec
open Go.RowKit Go.Proofs.YtkghgjehjchajaaW.PrintWords Go.Proofs.YtkghgjehjchajaaW.PrintHand Go.Proofs.YtkghgjehjchajaaW.PrintHx Go.Proofs.YtkghgjehjchajaaW.PrintLe Go.Proofs.YtkghgjehjchajaaW.PrintIno
set_option linter.unusedVariables false
set_option linter.unusedSimpArgs false
def inodeOf (f : List Int → Int) (g : List Int → List Int) (l : List Int) : List Int := le (seg l 0 1) :: le (seg l 2 2) :: le (seg l 4 2) :: le (seg l 6 2) :: le (seg l 8 2) :: le (seg l 12 4) :: f (seg l 16 8) :: f (seg l 24 8) :: f (seg l 32 8) :: g (seg l 40 64)
def inodeA (l : List Int) : List Int := inodeOf gcap rootA l
def inodeB (l : List Int) : List Int := inodeOf (fun x => wrap64 (le x)) rootB l
theorem inodeA_length (l : List Int) : (inodeA l).length = 24 := by
  have := rootOf_length gcap (seg l 40 64)
  simp [inodeA, inodeOf, rootA, this]
theorem inodeB_length (l : List Int) : (inodeB l).length = 24 := by
  have := rootOf_length (fun x => wrap64 (le x)) (seg l 40 64)
  simp [inodeB, inodeOf, rootB, this]
/-- What is decoded: the inode and its code. -/
def decI (r : List Int) (l : List Int) : List Int × Int := if l.length = 128 ∧ inodeGood r = true ∧ inodeBytes r = l then (r, 0) else (List.replicate 24 0, 21)
theorem le8 {l : List Int} (h : Byt l) (hl : l.length ≤ 8) : 0 ≤ le l ∧ le l < 18446744073709551616 := by
  have h1 := le_nonneg h
  have h2 := le_lt h
  have h3 : (256 : Int) ^ l.length ≤ 256 ^ 8 := p256_le hl
  rw [show (256 : Int) ^ 8 = 18446744073709551616 by decide] at h3
  omega
theorem cap_same {l : List Int} (h : Byt l) (hl : l.length ≤ 8) (hs : gcap l ≤ 1099511627776) : gcap l = wrap64 (le l) := by
  have := le8 h hl
  unfold gcap at hs ⊢
  split at hs
  · rw [if_pos (by omega)]
    unfold wrap64
    omega
  · omega
theorem wrap_same {l : List Int} (h : Byt l) (hl : l.length ≤ 8) (h0 : 0 ≤ wrap64 (le l)) (hs : wrap64 (le l) ≤ 1099511627776) : gcap l = wrap64 (le l) := by
  have := le8 h hl
  have e : wrap64 (le l) = le l := by unfold wrap64 at h0 hs ⊢; omega
  rw [e] at hs ⊢
  unfold gcap
  rw [if_pos (by omega)]
theorem root_eq {l : List Int} (h : gcap (seg l 0 8) = wrap64 (le (seg l 0 8))) : rootA l = rootB l := by
  unfold rootA rootB rootOf
  rw [h]
theorem root_sameA {l : List Int} (h : Byt l) (hl : l.length = 64) (hg : rootGood (rootA l) = true) : rootA l = rootB l := by
  by_cases hs : gcap (seg l 0 8) ≤ 1099511627776
  · exact root_eq (cap_same (seg_byt h _ _) (by rw [seg_le _ _ (by omega)]; decide) hs)
  · have : rootGood (rootA l) = false := rootGood_high (by rw [rootA_size]; omega)
    rw [this] at hg
    cases hg
theorem root_sameB {l : List Int} (h : Byt l) (hl : l.length = 64) (hg : rootGood (rootB l) = true) : rootA l = rootB l := by
  by_cases h0 : 0 ≤ wrap64 (le (seg l 0 8))
  · by_cases hs : wrap64 (le (seg l 0 8)) ≤ 1099511627776
    · exact root_eq (wrap_same (seg_byt h _ _) (by rw [seg_le _ _ (by omega)]; decide) h0 hs)
    · have : rootGood (rootB l) = false := rootGood_high (by rw [rootB_size]; omega)
      rw [this] at hg
      cases hg
  · have : rootGood (rootB l) = false := rootGood_low (by rw [rootB_size]; omega)
    rw [this] at hg
    cases hg
theorem inode_eq {l : List Int} (h6 : gcap (seg l 16 8) = wrap64 (le (seg l 16 8))) (h7 : gcap (seg l 24 8) = wrap64 (le (seg l 24 8))) (h8 : gcap (seg l 32 8) = wrap64 (le (seg l 32 8))) (hr : rootA (seg l 40 64) = rootB (seg l 40 64)) : inodeA l = inodeB l := by
  unfold inodeA inodeB inodeOf
  rw [h6, h7, h8, hr]
theorem inodeA_root (l : List Int) : seg (inodeA l) 9 15 = rootA (seg l 40 64) := by
  show (rootA (seg l 40 64)).take 15 = _
  exact List.take_of_length_le (Nat.le_of_eq (rootOf_length _ _))
theorem inodeB_root (l : List Int) : seg (inodeB l) 9 15 = rootB (seg l 40 64) := by
  show (rootB (seg l 40 64)).take 15 = _
  exact List.take_of_length_le (Nat.le_of_eq (rootOf_length _ _))
/-- Both read one inode, where it is right. -/
theorem decI_same {l : List Int} (h : Byt l) : decI (inodeA l) l = decI (inodeB l) l := by
  by_cases hl : l.length = 128
  · have s8 : ∀ o, o + 8 ≤ 128 → (seg l o 8).length ≤ 8 := fun o ho => by rw [seg_le _ _ (by omega)]; omega
    have hb := fun o m => seg_byt h o m
    by_cases hA : inodeGood (inodeA l) = true
    · obtain ⟨_, _, _, _, _, _, h6, h7, h8, h9⟩ := inodeGood_get hA
      rw [inodeA_root] at h9
      rw [inode_eq (cap_same (hb 16 8) (s8 16 (by omega)) h6.2) (cap_same (hb 24 8) (s8 24 (by omega)) h7.2) (cap_same (hb 32 8) (s8 32 (by omega)) h8.2) (root_sameA (hb 40 64) (seg_le _ _ (by omega)) h9)]
    · by_cases hB : inodeGood (inodeB l) = true
      · obtain ⟨_, _, _, _, _, _, h6, h7, h8, h9⟩ := inodeGood_get hB
        rw [inodeB_root] at h9
        rw [inode_eq (wrap_same (hb 16 8) (s8 16 (by omega)) h6.1 h6.2) (wrap_same (hb 24 8) (s8 24 (by omega)) h7.1 h7.2) (wrap_same (hb 32 8) (s8 32 (by omega)) h8.1 h8.2) (root_sameB (hb 40 64) (seg_le _ _ (by omega)) h9)]
      · unfold decI
        rw [if_neg (fun h_ => hA h_.2.1), if_neg (fun h_ => hB h_.2.1)]
  · unfold decI
    rw [if_neg (fun h_ => hl h_.1), if_neg (fun h_ => hl h_.1)]
theorem inodeBytes_byt (a : List Int) : Byt (inodeBytes a) := fun x hx => by
  unfold inodeBytes inoParts at hx
  rcases List.mem_append.1 hx with h | h
  · simp only [List.flatten_cons, List.flatten_nil, List.mem_append, List.not_mem_nil, or_false] at h
    rcases h with h | h | h | h | h | h | h | h | h | h | h
    all_goals first | exact leB_byt _ _ x h | exact rootBytes_byt _ x h
  · have := (List.mem_replicate.1 h).2
    omega
theorem le_one (x : Int) : le [x] = x := by simp [le]
theorem seg_one {l : List Int} (h : 0 < l.length) : seg l 0 1 = [rd l 0] := by
  cases l with
  | nil => simp at h
  | cons x xs => simp [seg, rd]
end Go.Proofs.YtkghgjehjchajaaW.PrintDec
namespace Go.Proofs.YtkghgjehjchajaaW.PrintDec
open Go.RowKit Go.Proofs.YtkghgjehjchajaaW.PrintWords Go.Proofs.YtkghgjehjchajaaW.PrintHand Go.Proofs.YtkghgjehjchajaaW.PrintHx Go.Proofs.YtkghgjehjchajaaW.PrintLe
set_option linter.unusedVariables false
theorem seg_seg (l : List Int) (a n o m : Nat) (h : o + m ≤ n) : seg (seg l a n) o m = seg (l.drop a) o m := by
  unfold seg
  rw [List.drop_take, List.take_take, Nat.min_eq_left (by omega)]
theorem rootOf_part (f : List Int → Int) (l : List Int) (a : Nat) : rootOf f (seg l a 64) = rootOf f (l.drop a) := by
  have e : rootVals (seg l a 64) = rootVals (l.drop a) := by
    unfold rootVals
    refine List.map_congr_left fun k hk => ?_
    have := List.mem_range.1 hk
    rw [seg_seg l a 64 _ _ (by omega)]
  unfold rootOf
  rw [e, seg_seg l a 64 _ _ (by omega), seg_seg l a 64 _ _ (by omega), seg_seg l a 64 _ _ (by omega)]
theorem rootB_part (l : List Int) (h : 104 ≤ l.length) : rootB (seg l 40 64) = rootB (l.drop 40) := rootOf_part _ l 40
end Go.Proofs.YtkghgjehjchajaaW.PrintDec
namespace Go.Proofs.YtkghgjehjchajaaW.PrintTabl
open Go.RowKit Go.Proofs.YtkghgjehjchajaaW.PrintWords Go.Proofs.YtkghgjehjchajaaW.PrintHand Go.Proofs.YtkghgjehjchajaaW.PrintHx Go.Proofs.YtkghgjehjchajaaW.PrintLe Go.Proofs.YtkghgjehjchajaaW.PrintIno
set_option linter.unusedVariables false
/-- The last place of the first k that is in use; 1 where none is. -/
def lastK (l : List (List Int)) : Nat → Int
  | 0 => 1
  | k + 1 => if (l.getD k []).getD 0 0 = 0 then lastK l k else (k : Int)
def lastOf (l : List (List Int)) : Int := if lastK l l.length < 1 then 1 else lastK l l.length
theorem lastK_range (l : List (List Int)) : ∀ k, 0 ≤ lastK l k ∧ lastK l k ≤ max 1 ((k : Int) - 1)
  | 0 => by
    show (0 : Int) ≤ 1 ∧ (1 : Int) ≤ max 1 (((0 : Nat) : Int) - 1)
    omega
  | k + 1 => by
    have := lastK_range l k
    unfold lastK
    split <;> omega
theorem lastOf_pos (l : List (List Int)) : 1 ≤ lastOf l := by
  unfold lastOf
  split <;> omega
end Go.Proofs.YtkghgjehjchajaaW.PrintTabl
