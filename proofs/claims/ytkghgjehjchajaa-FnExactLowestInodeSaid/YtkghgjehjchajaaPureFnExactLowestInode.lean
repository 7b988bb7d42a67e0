/- The law of LowestInode answers true at every argument; no condition. -/
import Derived.Test.YtkghgjehjchajaaPFnExactLowestInodex4
namespace Go.Proofs.Ytkghgjehjchajaa.Pure
open Go.RowKit Go.Proofs.Ytkghgjehjchajaa.PFnExactLowestInode Go.Proofs.YtkghgjehjchajaaW.PrintWords Go.Proofs.YtkghgjehjchajaaW.PrintLast
set_option linter.unusedVariables false
set_option linter.unusedVariables false

theorem w64 {x : Int} (h0 : -9223372036854775808 ≤ x) (h1 : x ≤ 9223372036854775807) : wrap64 x = x := by unfold wrap64; omega
theorem w64n {n : Nat} (h : n < 9223372036854775807) : wrap64 ((n : Int) + 1) = ((n + 1 : Nat) : Int) := by unfold wrap64; omega
theorem sucK {n k : Nat} (h : n < k) : ∃ m, k = m + 1 := ⟨k - 1, by omega⟩
theorem rdN (xs : List Int) (i : Nat) : rd xs (i : Int) = xs.getD i 0 := by simp [rd]
theorem rd_some {xs : List Int} {i : Nat} (h : i < xs.length) : rd xs (i : Int) = xs[i] := by rw [rdN, List.getD_eq_getElem?_getD, List.getElem?_eq_getElem h]; rfl

theorem szInodeS_f (l : List (List Int)) (hl : l.length ≤ 9223372036854775807) : laws_szInodeS.f l 1048576 = some (if 1048576 < l.length then -1 else 1048576 - (l.length : Int)) := by
  unfold laws_szInodeS.f
  rw [w64 (by omega) (by omega)]
  by_cases h : 1048576 < l.length
  · rw [if_pos (by omega), if_pos h]
  · rw [if_neg (by omega), if_neg h]
theorem szInodeS_small (l : List (List Int)) (h : ¬ ((if 1048576 < l.length then (-1 : Int) else 1048576 - (l.length : Int)) < 0)) : l.length ≤ 1048576 := by
  by_cases hc : 1048576 < l.length
  · rw [if_pos hc] at h
    omega
  · omega
theorem toInodeS_f (l : List (List Int)) (h : l.length ≤ 1048576) : laws_toInodeS.f l = some l := if_pos (by omega)
theorem FnExactLowestInode : laws_FnExactLowestInode.Pure := by
  intro l0 hb
  refine ⟨_, szInodeS_f l0 (by have := hb.1; simp only [maxLen] at this; omega), fun hn => ?_⟩
  have hl := szInodeS_small l0 hn
  exact ⟨l0, _, l0, l0, toInodeS_f l0 hl, rfl, toInodeS_f l0 hl, rfl, toInodeS_f l0 hl, if_pos rfl⟩

end Go.Proofs.Ytkghgjehjchajaa.Pure
