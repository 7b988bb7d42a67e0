/- What bytes say: a snapshot's record. No condition. -/
import Derived.Test.YtknlpjoidjgciaaDoorWSnp
import Derived.Test.YtknlpjoidjgciaaDoorWDec3
namespace Go.Proofs.YtknlpjoidjgciaaDoorW.PrintSnd
open Go Go.RowKit Go.Proofs.YtknlpjoidjgciaaDoorW.PrintWords Go.Proofs.YtknlpjoidjgciaaDoorW.PrintHand Go.Proofs.YtknlpjoidjgciaaDoorW.PrintHx Go.Proofs.YtknlpjoidjgciaaDoorW.PrintLe Go.Proofs.YtknlpjoidjgciaaDoorW.PrintIno Go.Proofs.YtknlpjoidjgciaaDoorW.PrintDec Go.Proofs.YtknlpjoidjgciaaDoorW.PrintFsi Go.Proofs.YtknlpjoidjgciaaDoorW.PrintFsb Go.Proofs.YtknlpjoidjgciaaDoorW.PrintCrc Go.Proofs.YtknlpjoidjgciaaDoorW.PrintSnp Go.Proofs.YtknlpjoidjgciaaDoorW.PrintGrow
set_option linter.unusedVariables false
set_option linter.unusedSimpArgs false
theorem one_byte {l : List Int} (h : Byt l) (o : Nat) (ho : o < l.length) : wrap64 (le (seg l o 1)) = l.getD o 0 ∧ 0 ≤ l.getD o 0 ∧ l.getD o 0 ≤ 255 := by
  have e : seg l o 1 = [l.getD o 0] := by
    show (l.drop o).take 1 = _
    rw [List.drop_eq_getElem_cons ho, List.take_succ_cons, List.take_zero, List.getD_eq_getElem?_getD, List.getElem?_eq_getElem ho]
    rfl
  have hm : l.getD o 0 ∈ l := by
    rw [List.getD_eq_getElem?_getD, List.getElem?_eq_getElem ho]
    exact List.getElem_mem ho
  have hb := h _ hm
  refine ⟨?_, hb⟩
  rw [e, le_one]
  unfold wrap64
  omega
theorem u8_small (v : Int) (h0 : 0 ≤ v) (h1 : v < 256) : IntKind.u8.wrap v = v := by
  unfold IntKind.wrap
  simp [IntKind.signed, IntKind.bits]
  omega
def nameLen (l : List Int) : Nat := min (l.getD 9 0).toNat 26
def nameS (l : List Int) : ByteArray := strOfNums (seg l 10 (nameLen l))
theorem strOf_size (l : List Int) : (strOfNums l).size = l.length := by
  have h := congrArg List.length (strOf_list l)
  rw [List.length_map, ByteArray.toList_eq, Array.length_toList] at h
  exact h
theorem nameS_size {l : List Int} (h : l.length = 512) : (nameS l).size = nameLen l := by
  have := Nat.min_le_right (l.getD 9 0).toNat 26
  rw [nameS, strOf_size, seg_le _ _ (by unfold nameLen; omega)]
theorem nameLen_le (l : List Int) : nameLen l ≤ 26 := Nat.min_le_right _ _
theorem name_min {l : List Int} (h : 0 ≤ l.getD 9 0) : (if 26 < l.getD 9 0 then 26 else l.getD 9 0) = ((nameLen l : Nat) : Int) := by
  unfold nameLen
  split <;> omega
/-- What is decoded: the record and its code. -/
def decS (x : Int) (s : ByteArray) (p q : Int) (r : List Int) (c : Int) (l : List Int) : Int × ByteArray × Int × Int × List Int × Int := if l.length = 512 ∧ snapGood x c p q r = true ∧ snapBytes x s p q r = l then (x, s, p, q, r, 0) else (0, ByteArray.empty, 0, 0, List.replicate 15 0, 21)
def snapA (c : Int) (l : List Int) : Int × ByteArray × Int × Int × List Int × Int := decS (l.getD 8 0) (nameS l) (gcap (seg l 40 8)) (gcap (seg l 48 8)) (rootA (seg l 56 64)) c l
def snapB (c : Int) (l : List Int) : Int × ByteArray × Int × Int × List Int × Int := decS (l.getD 8 0) (nameS l) (wrap64 (le (seg l 40 8))) (wrap64 (le (seg l 48 8))) (rootB (seg l 56 64)) c l
/-- Both read one record, where it is right. -/
theorem snap_same {l : List Int} (h : Byt l) (c : Int) : snapA c l = snapB c l := by
  unfold snapA snapB
  by_cases hl : l.length = 512
  · have s8 : ∀ o, o + 8 ≤ 512 → (seg l o 8).length ≤ 8 := fun o ho => by rw [seg_le _ _ (by omega)]; omega
    have hb := fun o m => seg_byt h o m
    by_cases hA : snapGood (l.getD 8 0) c (gcap (seg l 40 8)) (gcap (seg l 48 8)) (rootA (seg l 56 64)) = true
    · obtain ⟨_, _, h2, h3, h4⟩ := snapGood_get hA
      rw [cap_same (hb 40 8) (s8 40 (by omega)) h2.2, cap_same (hb 48 8) (s8 48 (by omega)) h3.2, root_sameA (hb 56 64) (seg_le _ _ (by omega)) h4]
    · by_cases hB : snapGood (l.getD 8 0) c (wrap64 (le (seg l 40 8))) (wrap64 (le (seg l 48 8))) (rootB (seg l 56 64)) = true
      · obtain ⟨_, _, h2, h3, h4⟩ := snapGood_get hB
        rw [wrap_same (hb 40 8) (s8 40 (by omega)) (by omega) h2.2, wrap_same (hb 48 8) (s8 48 (by omega)) (by omega) h3.2, root_sameB (hb 56 64) (seg_le _ _ (by omega)) h4]
      · unfold decS
        rw [if_neg (fun h_ => hA h_.2.1), if_neg (fun h_ => hB h_.2.1)]
  · unfold decS
    rw [if_neg (fun h_ => hl h_.1), if_neg (fun h_ => hl h_.1)]
theorem snap_nine (x : Int) (s : ByteArray) (p q : Int) (r : List Int) : (snapBytes x s p q r).getD 9 0 = (s.size : Int) % 256 := rfl
/-- A name's length beyond 26 is in no record. -/
theorem snap_long {l : List Int} (hl : l.length = 512) (h9 : 26 < l.getD 9 0) (x p q : Int) (r : List Int) (c : Int) : decS x (nameS l) p q r c l = (0, ByteArray.empty, 0, 0, List.replicate 15 0, 21) := by
  unfold decS
  rw [if_neg]
  rintro ⟨_, _, he⟩
  have h1 := snap_nine x (nameS l) p q r
  rw [he, nameS_size hl] at h1
  have := nameLen_le l
  omega
theorem decS_root {x : Int} {s : ByteArray} {p q : Int} {r : List Int} {c : Int} {l : List Int} {x1 : Int} {s1 : ByteArray} {p1 q1 : Int} {r1 : List Int} {k1 : Int} (hr : r.length = 15) (h : decS x s p q r c l = (x1, s1, p1, q1, r1, k1)) : r1.length = 15 := by
  unfold decS at h
  split at h
  · obtain ⟨_, _, _, _, rfl, _⟩ := Prod.mk.inj h |>.imp id (fun h2 => Prod.mk.inj h2 |>.imp id fun h3 => Prod.mk.inj h3 |>.imp id fun h4 => Prod.mk.inj h4 |>.imp id fun h5 => Prod.mk.inj h5)
    exact hr
  · simp only [Prod.mk.injEq] at h
    obtain ⟨_, _, _, _, rfl, _⟩ := h
    simp
theorem snapZ_size : (snapC 0 ByteArray.empty 0 0 (List.replicate 15 0)).toArray.size = 19 := snapC_size (by simp)
end Go.Proofs.YtknlpjoidjgciaaDoorW.PrintSnd
