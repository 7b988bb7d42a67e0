/- What bytes say: an Fsinfo record. No condition. -/
import Derived.Test.YtkghgjehjchajaaDoorWFsb
import Derived.Test.YtkghgjehjchajaaDoorWCrc
import Derived.Test.YtkghgjehjchajaaDoorWDec3
namespace Go.Proofs.YtkghgjehjchajaaDoorW.PrintFsd
open Go.RowKit Go.Proofs.YtkghgjehjchajaaDoorW.PrintWords Go.Proofs.YtkghgjehjchajaaDoorW.PrintHand Go.Proofs.YtkghgjehjchajaaDoorW.PrintHx Go.Proofs.YtkghgjehjchajaaDoorW.PrintLe Go.Proofs.YtkghgjehjchajaaDoorW.PrintIno Go.Proofs.YtkghgjehjchajaaDoorW.PrintDec Go.Proofs.YtkghgjehjchajaaDoorW.PrintFsi Go.Proofs.YtkghgjehjchajaaDoorW.PrintFsb Go.Proofs.YtkghgjehjchajaaDoorW.PrintCrc
set_option linter.unusedVariables false
set_option linter.unusedSimpArgs false
def snapsOf (l : List Int) : List Int := (List.range 31).map fun j => le (seg l (176 + 4 * j) 4)
def fsTopOf (f : List Int → Int) (g : List Int → List Int) (l : List Int) : List Int := f (seg l 8 8) :: le (seg l 16 4) :: le (seg l 20 4) :: f (seg l 24 8) :: f (seg l 32 8) :: le (seg l 40 4) :: le (seg l 44 4) :: (g (seg l 48 64) ++ g (seg l 112 64))
def fsOf (f : List Int → Int) (g : List Int → List Int) (l : List Int) : List Int := fsTopOf f g l ++ snapsOf l
def fsA (l : List Int) : List Int := fsOf gcap rootA l
def fsB (l : List Int) : List Int := fsOf (fun x => wrap64 (le x)) rootB l
theorem snapsOf_length (l : List Int) : (snapsOf l).length = 31 := by simp [snapsOf]
theorem snapsOf_get (l : List Int) (j : Nat) (hj : j < 31) : (snapsOf l).getD j 0 = le (seg l (176 + 4 * j) 4) := by
  unfold snapsOf
  rw [List.getD_eq_getElem?_getD, List.getElem?_map, List.getElem?_range hj]
  rfl
theorem fsTopA_length (l : List Int) : (fsTopOf gcap rootA l).length = 37 := by
  have h1 := rootOf_length gcap (seg l 48 64)
  have h2 := rootOf_length gcap (seg l 112 64)
  simp [fsTopOf, rootA, h1, h2]
theorem fsTopB_length (l : List Int) : (fsTopOf (fun x => wrap64 (le x)) rootB l).length = 37 := by
  have h1 := rootOf_length (fun x => wrap64 (le x)) (seg l 48 64)
  have h2 := rootOf_length (fun x => wrap64 (le x)) (seg l 112 64)
  simp [fsTopOf, rootB, h1, h2]
theorem fsA_length (l : List Int) : (fsA l).length = 68 := by rw [fsA, fsOf, List.length_append, fsTopA_length, snapsOf_length]
theorem fsB_length (l : List Int) : (fsB l).length = 68 := by rw [fsB, fsOf, List.length_append, fsTopB_length, snapsOf_length]
def fsBytes (a : List Int) : List Int := fsFill a ++ leB (crcV (fsFill a)) 4
/-- What is decoded: the record and its code. -/
def decF (r l : List Int) : List Int × Int := if l.length = 512 ∧ fsGood r = true ∧ fsBytes r = l then (r, 0) else (List.replicate 68 0, 21)
theorem fsBytes_byt (a : List Int) : Byt (fsBytes a) := byt_append (fsFill_byt a) (leB_byt _ _)
theorem seg7 {a b c d e f g : Int} {x y z : List Int} (hx : x.length = 15) : seg (a :: b :: c :: d :: e :: f :: g :: (x ++ y) ++ z) 7 15 = x := by
  show ((x ++ y) ++ z).take 15 = x
  rw [List.append_assoc, ← hx, List.take_left]
theorem seg22 {a b c d e f g : Int} {x y z : List Int} (hx : x.length = 15) (hy : y.length = 15) : seg (a :: b :: c :: d :: e :: f :: g :: (x ++ y) ++ z) 22 15 = y := by
  show (((x ++ y) ++ z).drop 15).take 15 = y
  rw [List.append_assoc, ← hx, List.drop_left, hx, ← hy, List.take_left]
theorem fsA_I (l : List Int) : fsI (fsA l) = rootA (seg l 48 64) := seg7 (rootOf_length _ _)
theorem fsA_M (l : List Int) : fsM (fsA l) = rootA (seg l 112 64) := seg22 (rootOf_length _ _) (rootOf_length _ _)
theorem fsB_I (l : List Int) : fsI (fsB l) = rootB (seg l 48 64) := seg7 (rootOf_length _ _)
theorem fsB_M (l : List Int) : fsM (fsB l) = rootB (seg l 112 64) := seg22 (rootOf_length _ _) (rootOf_length _ _)
theorem fs_eq {l : List Int} (h0 : gcap (seg l 8 8) = wrap64 (le (seg l 8 8))) (h3 : gcap (seg l 24 8) = wrap64 (le (seg l 24 8))) (h4 : gcap (seg l 32 8) = wrap64 (le (seg l 32 8))) (hi : rootA (seg l 48 64) = rootB (seg l 48 64)) (hm : rootA (seg l 112 64) = rootB (seg l 112 64)) : fsA l = fsB l := by
  unfold fsA fsB fsOf fsTopOf
  rw [h0, h3, h4, hi, hm]
/-- Both read one record, where it is right. -/
theorem decF_same {l : List Int} (h : Byt l) : decF (fsA l) l = decF (fsB l) l := by
  by_cases hl : l.length = 512
  · have s8 : ∀ o, o + 8 ≤ 512 → (seg l o 8).length ≤ 8 := fun o ho => by rw [seg_le _ _ (by omega)]; omega
    have hb := fun o m => seg_byt h o m
    by_cases hA : fsGood (fsA l) = true
    · obtain ⟨h0, _, _, h3, h4, _, _, h7, h8, _⟩ := fsGood_get hA
      rw [fsA_I] at h7
      rw [fsA_M] at h8
      rw [fs_eq (cap_same (hb 8 8) (s8 8 (by omega)) h0.2) (cap_same (hb 24 8) (s8 24 (by omega)) h3.2) (cap_same (hb 32 8) (s8 32 (by omega)) h4.2) (root_sameA (hb 48 64) (seg_le _ _ (by omega)) h7) (root_sameA (hb 112 64) (seg_le _ _ (by omega)) h8)]
    · by_cases hB : fsGood (fsB l) = true
      · obtain ⟨h0, _, _, h3, h4, _, _, h7, h8, _⟩ := fsGood_get hB
        rw [fsB_I] at h7
        rw [fsB_M] at h8
        rw [fs_eq (wrap_same (hb 8 8) (s8 8 (by omega)) h0.1 h0.2) (wrap_same (hb 24 8) (s8 24 (by omega)) h3.1 h3.2) (wrap_same (hb 32 8) (s8 32 (by omega)) h4.1 h4.2) (root_sameB (hb 48 64) (seg_le _ _ (by omega)) h7) (root_sameB (hb 112 64) (seg_le _ _ (by omega)) h8)]
      · unfold decF
        rw [if_neg (fun h_ => hA h_.2.1), if_neg (fun h_ => hB h_.2.1)]
  · unfold decF
    rw [if_neg (fun h_ => hl h_.1), if_neg (fun h_ => hl h_.1)]
/-- The loop's step: one snapshot pointer more. -/
def fsUp (t s : List Int) (j : Nat) : List Int := t ++ s.take j ++ List.replicate (31 - j) 0
theorem fsUp_length {t s : List Int} (ht : t.length = 37) (hs : s.length = 31) {j : Nat} (hj : j ≤ 31) : (fsUp t s j).length = 68 := by
  rw [fsUp, List.length_append, List.length_append, ht, List.length_take, hs, List.length_replicate, Nat.min_eq_left hj]
  omega
theorem fsUp_set {t s : List Int} (ht : t.length = 37) (hs : s.length = 31) {j : Nat} (hj : j < 31) : (fsUp t s j).set (37 + j) (s.getD j 0) = fsUp t s (j + 1) := by
  have h1 : (t ++ s.take j).length = 37 + j := by rw [List.length_append, ht, List.length_take, hs, Nat.min_eq_left (by omega)]
  unfold fsUp
  rw [List.set_append_right (37 + j) _ (by rw [h1]; exact Nat.le_refl _), h1, Nat.sub_self, show 31 - j = (31 - (j + 1)) + 1 by omega, List.replicate_succ, List.set_cons_zero, List.take_succ_eq_append_getElem (by rw [hs]; exact hj), List.getD_eq_getElem?_getD, List.getElem?_eq_getElem (by rw [hs]; exact hj)]
  simp only [Option.getD_some, List.append_assoc, List.cons_append, List.nil_append]
theorem fsUp_all {t s : List Int} (hs : s.length = 31) : fsUp t s 31 = t ++ s := by
  rw [fsUp, List.take_of_length_le (by rw [hs]; exact Nat.le_refl _)]
  simp
theorem fsUp_zero {t s : List Int} : fsUp t s 0 = t ++ List.replicate 31 0 := by simp [fsUp]
end Go.Proofs.YtkghgjehjchajaaDoorW.PrintFsd
