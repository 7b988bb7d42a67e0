/- Bytes of numbers, the lowest first; what a root's bytes are. No condition. -/
import Derived.Test.YtknlpjoidjgciaaDoorWHxS
import Derived.Lib.EndianBits
import Derived.Laws.BitsLemmas
namespace Go.Proofs.YtknlpjoidjgciaaDoorW.PrintLe
open Go.RowKit Go.Proofs.YtknlpjoidjgciaaDoorW.PrintWords Go.Proofs.YtknlpjoidjgciaaDoorW.PrintHand Go.Proofs.YtknlpjoidjgciaaDoorW.PrintHx
set_option linter.unusedVariables false
theorem w64 {x : Int} (h0 : -9223372036854775808 ≤ x) (h1 : x ≤ 9223372036854775807) : wrap64 x = x := by unfold wrap64; omega
theorem w64n {n : Nat} (h : n < 9223372036854775807) : wrap64 ((n : Int) + 1) = ((n + 1 : Nat) : Int) := by unfold wrap64; omega
theorem sucK {n k : Nat} (h : n < k) : ∃ m, k = m + 1 := ⟨k - 1, by omega⟩
theorem rdN (xs : List Int) (i : Nat) : rd xs (i : Int) = xs.getD i 0 := by simp [rd]
theorem rd_some {xs : List Int} {i : Nat} (h : i < xs.length) : rd xs (i : Int) = xs[i] := by rw [rdN, List.getD_eq_getElem?_getD, List.getElem?_eq_getElem h]; rfl
/-- a list of bytes -/
def Byt (l : List Int) : Prop := ∀ x ∈ l, 0 ≤ x ∧ x ≤ 255
/-- the number that bytes say, the lowest first -/
def le : List Int → Int
  | [] => 0
  | b :: bs => b + 256 * le bs
/-- a number's lowest n bytes, the lowest first -/
def leB (v : Int) : Nat → List Int
  | 0 => []
  | n + 1 => v % 256 :: leB (v / 256) n
theorem leB_length (v : Int) (n : Nat) : (leB v n).length = n := by
  induction n generalizing v with
  | zero => rfl
  | succ n ih => simp [leB, ih]
theorem leB_byt (v : Int) (n : Nat) : Byt (leB v n) := by
  induction n generalizing v with
  | zero => intro x hx; simp [leB] at hx
  | succ n ih =>
    intro x hx
    simp only [leB, List.mem_cons] at hx
    rcases hx with rfl | hx
    · omega
    · exact ih _ x hx
theorem leB_snoc (v : Int) (n : Nat) : leB v (n + 1) = leB v n ++ [v / 256 ^ n % 256] := by
  induction n generalizing v with
  | zero => simp [leB]
  | succ n ih =>
    rw [leB, ih (v / 256), leB, List.cons_append, Int.ediv_ediv_of_nonneg (by omega), Int.pow_succ', ]
theorem Byt.tail {b : Int} {l : List Int} (h : Byt (b :: l)) : Byt l := fun x hx => h x (List.mem_cons_of_mem _ hx)
theorem Byt.drop {l : List Int} (h : Byt l) (n : Nat) : Byt (l.drop n) := fun x hx => h x (List.mem_of_mem_drop hx)
theorem Byt.take {l : List Int} (h : Byt l) (n : Nat) : Byt (l.take n) := fun x hx => h x (List.mem_of_mem_take hx)
theorem le_nonneg {l : List Int} (h : Byt l) : 0 ≤ le l := by
  induction l with
  | nil => simp [le]
  | cons b l ih => have h1 := ih h.tail; have h2 := h b (by simp); simp only [le]; omega
theorem le_lt {l : List Int} (h : Byt l) : le l < 256 ^ l.length := by
  induction l with
  | nil => simp [le]
  | cons b l ih =>
    have h1 := ih h.tail
    have h2 := h b (by simp)
    simp only [le, List.length_cons, Int.pow_succ]
    omega
theorem le_split (l : List Int) (n : Nat) (h : n ≤ l.length) : le l = le (l.take n) + 256 ^ n * le (l.drop n) := by
  induction n generalizing l with
  | zero => simp [le]
  | succ n ih =>
    cases l with
    | nil => simp at h
    | cons b l =>
      simp only [List.take_succ_cons, List.drop_succ_cons, le]
      rw [ih l (by simpa using h), Int.pow_succ', Int.mul_add, Int.mul_assoc]
      omega
theorem le_leB (v : Int) (n : Nat) (h0 : 0 ≤ v) (h1 : v < 256 ^ n) : le (leB v n) = v := by
  induction n generalizing v with
  | zero => simp at h1; simp [leB, le]; omega
  | succ n ih =>
    rw [Int.pow_succ] at h1
    simp only [leB, le]
    rw [ih (v / 256) (by omega) (by omega)]
    omega
theorem leB_le {l : List Int} (h : Byt l) : leB (le l) l.length = l := by
  induction l with
  | nil => rfl
  | cons b l ih =>
    have h2 := h b (by simp)
    simp only [le, List.length_cons, leB]
    rw [show (b + 256 * le l) % 256 = b by omega, show (b + 256 * le l) / 256 = le l by omega, ih h.tail]
theorem p256 (n : Nat) : (0 : Int) < 256 ^ n := Int.pow_pos (by decide)
theorem p256_le {m n : Nat} (h : m ≤ n) : (256 : Int) ^ m ≤ 256 ^ n := by
  obtain ⟨d, rfl⟩ := Nat.exists_eq_add_of_le h
  have h1 : (256 : Int) ^ m * 1 ≤ 256 ^ m * 256 ^ d := Int.mul_le_mul_of_nonneg_left (by have := p256 d; omega) (by have := p256 m; omega)
  rw [Int.pow_add]
  omega

/-- Numbers of four bytes each. -/
def flat4 : List Int → List Int
  | [] => []
  | v :: vs => leB v 4 ++ flat4 vs
theorem flat4_length (l : List Int) : (flat4 l).length = 4 * l.length := by
  induction l with
  | nil => rfl
  | cons v l ih => simp [flat4, leB_length, ih]; omega
theorem flat4_snoc (l : List Int) (v : Int) : flat4 (l ++ [v]) = flat4 l ++ leB v 4 := by
  induction l with
  | nil => simp [flat4]
  | cons x l ih => simp [flat4, ih]
theorem flat4_take (l : List Int) (j : Nat) (hj : j < l.length) : flat4 (l.take (j + 1)) = flat4 (l.take j) ++ leB (l.getD j 0) 4 := by
  rw [List.take_succ_eq_append_getElem hj, flat4_snoc, List.getD_eq_getElem?_getD, List.getElem?_eq_getElem hj]
  rfl
def rootBytes (a : List Int) : List Int := leB (a.getD 0 0) 8 ++ flat4 (seg a 1 14)
theorem rootBytes_length {a : List Int} (h : a.length = 15) : (rootBytes a).length = 64 := by
  rw [rootBytes, List.length_append, leB_length, flat4_length, part_len (n := 15) h (by decide)]
theorem rootGood_size {a : List Int} (h : rootGood a = true) : 0 ≤ a.getD 0 0 ∧ a.getD 0 0 ≤ 262144 := by
  unfold rootGood at h
  simp only [Bool.and_eq_true, decide_eq_true_eq] at h
  exact ⟨h.1, h.2.1⟩
theorem rootGood_fits {a : List Int} (h : rootGood a = true) (j : Nat) (hj : j < 14) : ptrFits a j = true := by
  unfold rootGood at h
  simp only [Bool.and_eq_true] at h
  exact List.all_eq_true.1 h.2.2 j (List.mem_range.2 hj)
theorem ptrOk_range {p : Int} (h : ptrOk p = true) : 0 ≤ p ∧ p < 2048 := by
  unfold ptrOk at h
  simp only [Bool.or_eq_true, Bool.and_eq_true, decide_eq_true_eq] at h
  omega
theorem rootGood_ptr {a : List Int} (h : rootGood a = true) (j : Nat) (hj : j < 14) : 0 ≤ (seg a 1 14).getD j 0 ∧ (seg a 1 14).getD j 0 < 2048 := by
  have := rootGood_fits h j hj
  unfold ptrFits at this
  simp only [Bool.and_eq_true] at this
  exact ptrOk_range this.1
end Go.Proofs.YtknlpjoidjgciaaDoorW.PrintLe
