/- A part of a part. No condition. -/
import Derived.Test.YtkghgjehjchajaaDoorWDec3
namespace Go.Proofs.YtkghgjehjchajaaDoorW.PrintDec
open Go.RowKit Go.Proofs.YtkghgjehjchajaaDoorW.PrintWords Go.Proofs.YtkghgjehjchajaaDoorW.PrintHand Go.Proofs.YtkghgjehjchajaaDoorW.PrintHx Go.Proofs.YtkghgjehjchajaaDoorW.PrintLe
set_option linter.unusedVariables false
theorem seg_seg (l : List Int) (a n o m : Nat) (h : o + m ≤ n) : seg (seg l a n) o m = seg (l.drop a) o m := by
  unfold seg
  rw [List.drop_take, List.take_take, Nat.min_eq_left (by omega)]
theorem rootOf_part (f : List Int → Int) (l : List Int) (a : Nat) : rootOf f (seg l a 64) = rootOf f (l.drop a) := by
  have e : rootVals (seg l a 64) = rootVals (l.drop a) := by
    unfold rootVals
    refine List.map_congr_left fun k hk => ?_
    have := List.mem_range.1 hk
    rw [seg_seg l a 64 _ _ (by omega)]
  unfold rootOf
  rw [e, seg_seg l a 64 _ _ (by omega), seg_seg l a 64 _ _ (by omega), seg_seg l a 64 _ _ (by omega)]
theorem rootB_part (l : List Int) (h : 104 ≤ l.length) : rootB (seg l 40 64) = rootB (l.drop 40) := rootOf_part _ l 40
end Go.Proofs.YtkghgjehjchajaaDoorW.PrintDec
