/- Two byte strings made of numbers are one just if the numbers are. No condition. -/
import Derived.Test.YtkghgjehjchajaaDoorWDec
namespace Go.Proofs.YtkghgjehjchajaaDoorW.PrintDec
open Go.RowKit Go.Proofs.YtkghgjehjchajaaDoorW.PrintWords Go.Proofs.YtkghgjehjchajaaDoorW.PrintHand Go.Proofs.YtkghgjehjchajaaDoorW.PrintHx Go.Proofs.YtkghgjehjchajaaDoorW.PrintLe
set_option linter.unusedVariables false
set_option linter.unusedSimpArgs false
theorem strOf_list (l : List Int) : (strOfNums l).toList = l.map (fun n => UInt8.ofNat n.toNat) := by
  rw [ByteArray.toList_eq]
  simp [strOfNums]
theorem byte_inj {x y : Int} (hx : 0 ≤ x ∧ x ≤ 255) (hy : 0 ≤ y ∧ y ≤ 255) (h : UInt8.ofNat x.toNat = UInt8.ofNat y.toNat) : x = y := by
  have h2 := congrArg UInt8.toNat h
  rw [UInt8.toNat_ofNat', UInt8.toNat_ofNat'] at h2
  omega
theorem map_inj : ∀ {a b : List Int}, Byt a → Byt b → a.map (fun n => UInt8.ofNat n.toNat) = b.map (fun n => UInt8.ofNat n.toNat) → a = b
  | [], [], _, _, _ => rfl
  | [], _ :: _, _, _, h => by simp at h
  | _ :: _, [], _, _, h => by simp at h
  | x :: a, y :: b, ha, hb, h => by
    simp only [List.map_cons, List.cons.injEq] at h
    rw [byte_inj (ha x (by simp)) (hb y (by simp)) h.1, map_inj ha.tail hb.tail h.2]
theorem strOf_eq {a b : List Int} (ha : Byt a) (hb : Byt b) : ((strOfNums a).toList == (strOfNums b).toList) = decide (a = b) := by
  rw [strOf_list, strOf_list]
  by_cases h : a = b
  · subst h
    simp
  · rw [decide_eq_false h, beq_eq_false_iff_ne]
    exact fun e => h (map_inj ha hb e)
theorem strOf_ne {a b : List Int} (ha : Byt a) (hb : Byt b) : ((strOfNums a).toList != (strOfNums b).toList) = !decide (a = b) := by
  rw [bne, strOf_eq ha hb]
theorem flat4_byt : ∀ (l : List Int), Byt (flat4 l)
  | [] => fun x hx => by simp [flat4] at hx
  | v :: vs => fun x hx => by
    simp only [flat4] at hx
    rcases List.mem_append.1 hx with h | h
    · exact leB_byt v 4 x h
    · exact flat4_byt vs x h
theorem rootBytes_byt (a : List Int) : Byt (rootBytes a) := fun x hx => by
  unfold rootBytes at hx
  rcases List.mem_append.1 hx with h | h
  · exact leB_byt _ 8 x h
  · exact flat4_byt _ x h
end Go.Proofs.YtkghgjehjchajaaDoorW.PrintDec
