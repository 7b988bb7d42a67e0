/- The law of DecodeWords answers true for every slice of bytes; no condition. -/
import Derived.Test.YtjhaofdnlnbajaaPFnExactDecodeWordsx3
import Derived.Lib.EndianBits
import Derived.Laws.BitsLemmas
import Derived.Lib.EndianBits
import Derived.Laws.BitsLemmas
import Derived.Lib.EndianBits
import Derived.Laws.BitsLemmas
import Derived.Lib.EndianBits
import Derived.Laws.BitsLemmas
import Derived.Lib.EndianBits
import Derived.Laws.BitsLemmas
import Derived.OpenShut
import Derived.Lib.EndianBits
import Derived.Laws.BitsLemmas
import Derived.OpenShut
namespace Go.Proofs.Ytjhaofdnlnbajaa.Pure
open Go.RowKit Go.Proofs.Ytjhaofdnlnbajaa.PFnExactDecodeWords Go.Proofs.YtjhaofdnlnbajaaW.PrintWords Go.Proofs.YtjhaofdnlnbajaaW.PrintLast
set_option linter.unusedVariables false
set_option linter.unusedVariables false
set_option linter.unusedVariables false
set_option linter.unusedVariables false
set_option linter.unusedVariables false
set_option linter.unusedVariables false

theorem w64 {x : Int} (h0 : -9223372036854775808 ≤ x) (h1 : x ≤ 9223372036854775807) : wrap64 x = x := by unfold wrap64; omega
theorem w64n {n : Nat} (h : n < 9223372036854775807) : wrap64 ((n : Int) + 1) = ((n + 1 : Nat) : Int) := by unfold wrap64; omega
theorem sucK {n k : Nat} (h : n < k) : ∃ m, k = m + 1 := ⟨k - 1, by omega⟩
theorem rdN (xs : List Int) (i : Nat) : rd xs (i : Int) = xs.getD i 0 := by simp [rd]
theorem rd_some {xs : List Int} {i : Nat} (h : i < xs.length) : rd xs (i : Int) = xs[i] := by rw [rdN, List.getD_eq_getElem?_getD, List.getElem?_eq_getElem h]; rfl

/-- a list of bytes -/
def Byt (l : List Int) : Prop := ∀ x ∈ l, 0 ≤ x ∧ x ≤ 255
/-- the number that bytes say, the lowest first -/
def le : List Int → Int
  | [] => 0
  | b :: bs => b + 256 * le bs
/-- a number's lowest n bytes, the lowest first -/
def leB (v : Int) : Nat → List Int
  | 0 => []
  | n + 1 => v % 256 :: leB (v / 256) n
theorem leB_length (v : Int) (n : Nat) : (leB v n).length = n := by
  induction n generalizing v with
  | zero => rfl
  | succ n ih => simp [leB, ih]
theorem leB_byt (v : Int) (n : Nat) : Byt (leB v n) := by
  induction n generalizing v with
  | zero => intro x hx; simp [leB] at hx
  | succ n ih =>
    intro x hx
    simp only [leB, List.mem_cons] at hx
    rcases hx with rfl | hx
    · omega
    · exact ih _ x hx
theorem leB_snoc (v : Int) (n : Nat) : leB v (n + 1) = leB v n ++ [v / 256 ^ n % 256] := by
  induction n generalizing v with
  | zero => simp [leB]
  | succ n ih =>
    rw [leB, ih (v / 256), leB, List.cons_append, Int.ediv_ediv_of_nonneg (by omega), Int.pow_succ', ]
theorem Byt.tail {b : Int} {l : List Int} (h : Byt (b :: l)) : Byt l := fun x hx => h x (List.mem_cons_of_mem _ hx)
theorem Byt.drop {l : List Int} (h : Byt l) (n : Nat) : Byt (l.drop n) := fun x hx => h x (List.mem_of_mem_drop hx)
theorem Byt.take {l : List Int} (h : Byt l) (n : Nat) : Byt (l.take n) := fun x hx => h x (List.mem_of_mem_take hx)
theorem le_nonneg {l : List Int} (h : Byt l) : 0 ≤ le l := by
  induction l with
  | nil => simp [le]
  | cons b l ih => have h1 := ih h.tail; have h2 := h b (by simp); simp only [le]; omega
theorem le_lt {l : List Int} (h : Byt l) : le l < 256 ^ l.length := by
  induction l with
  | nil => simp [le]
  | cons b l ih =>
    have h1 := ih h.tail
    have h2 := h b (by simp)
    simp only [le, List.length_cons, Int.pow_succ]
    omega
theorem le_split (l : List Int) (n : Nat) (h : n ≤ l.length) : le l = le (l.take n) + 256 ^ n * le (l.drop n) := by
  induction n generalizing l with
  | zero => simp [le]
  | succ n ih =>
    cases l with
    | nil => simp at h
    | cons b l =>
      simp only [List.take_succ_cons, List.drop_succ_cons, le]
      rw [ih l (by simpa using h), Int.pow_succ', Int.mul_add, Int.mul_assoc]
      omega
theorem le_leB (v : Int) (n : Nat) (h0 : 0 ≤ v) (h1 : v < 256 ^ n) : le (leB v n) = v := by
  induction n generalizing v with
  | zero => simp at h1; simp [leB, le]; omega
  | succ n ih =>
    rw [Int.pow_succ] at h1
    simp only [leB, le]
    rw [ih (v / 256) (by omega) (by omega)]
    omega
theorem leB_le {l : List Int} (h : Byt l) : leB (le l) l.length = l := by
  induction l with
  | nil => rfl
  | cons b l ih =>
    have h2 := h b (by simp)
    simp only [le, List.length_cons, leB]
    rw [show (b + 256 * le l) % 256 = b by omega, show (b + 256 * le l) / 256 = le l by omega, ih h.tail]
theorem p256 (n : Nat) : (0 : Int) < 256 ^ n := Int.pow_pos (by decide)
theorem p256_le {m n : Nat} (h : m ≤ n) : (256 : Int) ^ m ≤ 256 ^ n := by
  obtain ⟨d, rfl⟩ := Nat.exists_eq_add_of_le h
  have h1 : (256 : Int) ^ m * 1 ≤ 256 ^ m * 256 ^ d := Int.mul_le_mul_of_nonneg_left (by have := p256 d; omega) (by have := p256 m; omega)
  rw [Int.pow_add]
  omega

theorem toByteS_l0 (x0 : List Int) (hn : x0.length < 9223372036854775807) : ∀ (d i k : Nat) (x3 : List Int), i + d = x0.length → x3.length = x0.length → d < k → laws_toByteS.l0 k x0 x3 (i : Int) = some (x3.take i ++ x0.drop i)
  | 0, i, k, x3, h1, h2, h3 => by
    obtain ⟨k, rfl⟩ := sucK h3
    simp only [laws_toByteS.l0]
    rw [if_neg (by omega), List.take_of_length_le (by omega), List.drop_eq_nil_of_le (by omega), List.append_nil]
  | d + 1, i, k, x3, h1, h2, h3 => by
    obtain ⟨k, rfl⟩ := sucK h3
    simp only [laws_toByteS.l0]
    rw [if_pos (by omega), if_pos (by omega), if_pos (by omega), w64n (by omega), toByteS_l0 x0 hn d (i + 1) k _ (by omega) (by simpa using h2) (by omega)]
    have hi : i < x0.length := by omega
    rw [Int.toNat_natCast, rd_some hi, List.take_succ_eq_append_getElem (by rw [List.length_set]; omega), List.getElem_set_self, List.take_set_of_le (Nat.le_refl i), List.append_assoc, List.drop_eq_getElem_cons hi]
    rfl
theorem toByteS_f (l : List Int) (k : Nat) (hn : l.length ≤ 1048576) (hk : l.length < k) : laws_toByteS.f k l = some l := by
  unfold laws_toByteS.f
  rw [if_pos (by omega), if_pos (by omega)]
  have h := toByteS_l0 l (by omega) l.length 0 k (List.replicate ((l.length : Int)).toNat 0) (by omega) (by simp) hk
  rw [List.take_zero, List.drop_zero, List.nil_append] at h
  exact h

theorem eqByteS_l0 (x0 x1 : List Int) (hn : x0.length < 9223372036854775807) (hl : x0.length = x1.length) : ∀ (d i k : Nat), i + d = x0.length → d < k → laws_eqByteS.l0 k x0 x1 (i : Int) = some (decide (x0.drop i = x1.drop i))
  | 0, i, k, h1, h3 => by
    obtain ⟨k, rfl⟩ := sucK h3
    simp only [laws_eqByteS.l0]
    rw [if_neg (by omega), List.drop_eq_nil_of_le (by omega), List.drop_eq_nil_of_le (by omega)]
    simp
  | d + 1, i, k, h1, h3 => by
    obtain ⟨k, rfl⟩ := sucK h3
    simp only [laws_eqByteS.l0]
    have hi : i < x0.length := by omega
    have hi1 : i < x1.length := by omega
    have hd0 := List.drop_eq_getElem_cons hi
    have hd1 := List.drop_eq_getElem_cons hi1
    rw [if_pos (by omega), if_pos (by omega), if_pos (by omega), w64n (by omega), eqByteS_l0 x0 x1 hn hl d (i + 1) k (by omega) (by omega), rd_some hi, rd_some hi1]
    by_cases h : x0[i] = x1[i]
    · rw [if_pos h]
      simp only [hd0, hd1, List.cons.injEq, h, true_and]
    · rw [if_neg h]
      simp only [hd0, hd1, List.cons.injEq, h, false_and, decide_false]
theorem eqByteS_f (a b : List Int) (k : Nat) (hn : a.length ≤ 1048576) (hk : a.length < k) : laws_eqByteS.f k a b = some (decide (a = b)) := by
  unfold laws_eqByteS.f
  by_cases h : a.length = b.length
  · rw [if_pos (by omega)]
    exact eqByteS_l0 a b (by omega) h a.length 0 k (by omega) hk
  · rw [if_neg (by omega)]
    have : a ≠ b := fun e => h (by rw [e])
    simp [this]

theorem eqIntS_l0 (x0 x1 : List Int) (hn : x0.length < 9223372036854775807) (hl : x0.length = x1.length) : ∀ (d i k : Nat), i + d = x0.length → d < k → laws_eqIntS.l0 k x0 x1 (i : Int) = some (decide (x0.drop i = x1.drop i))
  | 0, i, k, h1, h3 => by
    obtain ⟨k, rfl⟩ := sucK h3
    simp only [laws_eqIntS.l0]
    rw [if_neg (by omega), List.drop_eq_nil_of_le (by omega), List.drop_eq_nil_of_le (by omega)]
    simp
  | d + 1, i, k, h1, h3 => by
    obtain ⟨k, rfl⟩ := sucK h3
    simp only [laws_eqIntS.l0]
    have hi : i < x0.length := by omega
    have hi1 : i < x1.length := by omega
    have hd0 := List.drop_eq_getElem_cons hi
    have hd1 := List.drop_eq_getElem_cons hi1
    rw [if_pos (by omega), if_pos (by omega), if_pos (by omega), w64n (by omega), eqIntS_l0 x0 x1 hn hl d (i + 1) k (by omega) (by omega), rd_some hi, rd_some hi1]
    by_cases h : x0[i] = x1[i]
    · rw [if_pos h]
      simp only [hd0, hd1, List.cons.injEq, h, true_and]
    · rw [if_neg h]
      simp only [hd0, hd1, List.cons.injEq, h, false_and, decide_false]
theorem eqIntS_f (a b : List Int) (k : Nat) (hn : a.length ≤ 1048576) (hk : a.length < k) : laws_eqIntS.f k a b = some (decide (a = b)) := by
  unfold laws_eqIntS.f
  by_cases h : a.length = b.length
  · rw [if_pos (by omega)]
    exact eqIntS_l0 a b (by omega) h a.length 0 k (by omega) hk
  · rw [if_neg (by omega)]
    have : a ≠ b := fun e => h (by rw [e])
    simp [this]

/-- what mark leaves -/
theorem markIntS_l0 (hn : ∀ x : Int, True) : ∀ (d i k : Nat) (x0 : List Int) (m : Nat), i + d = x0.length → d < k → m + d < 9223372036854775807 → i + d < 9223372036854775807 → laws_markIntS.l0 k x0 (m : Int) (i : Int) = some (((m + d : Nat) : Int), x0.take i ++ (List.range' m d).map (fun (q : Nat) => (q : Int)))
  | 0, i, k, x0, m, h1, h3, h4, h5 => by
    obtain ⟨k, rfl⟩ := sucK h3
    simp only [laws_markIntS.l0]
    rw [if_neg (by omega), List.take_of_length_le (by omega)]
    simp
  | d + 1, i, k, x0, m, h1, h3, h4, h5 => by
    obtain ⟨k, rfl⟩ := sucK h3
    simp only [laws_markIntS.l0]
    rw [if_pos (by omega), if_pos (by omega), w64n (by omega), w64n (by omega), markIntS_l0 hn d (i + 1) k _ (m + 1) (by simpa using (by omega)) (by omega) (by omega) (by omega)]
    rw [show ((i : Int)).toNat = i from by omega]
    congr 2
    · omega
    · rw [List.range'_succ, List.map_cons, List.take_succ_eq_append_getElem (by simpa using (by omega)), List.getElem_set_self, List.take_set_of_le (Nat.le_refl i), List.append_assoc]
      rfl
theorem markIntS_f (l : List Int) (m k : Nat) (hn : l.length ≤ 1048576) (hm : m ≤ 1099511627776) (hk : l.length < k) : laws_markIntS.f k l (m : Int) = some (((m + l.length : Nat) : Int), (List.range' m l.length).map (fun (q : Nat) => (q : Int))) := by
  unfold laws_markIntS.f
  have h := markIntS_l0 (fun _ => trivial) l.length 0 k l m (by omega) hk (by omega) (by omega)
  rw [List.take_zero, List.nil_append] at h
  exact h

/-- what mark leaves -/
theorem markByteS_l0 (hn : ∀ x : Int, True) : ∀ (d i k : Nat) (x0 : List Int) (m : Nat), i + d = x0.length → d < k → m + d < 9223372036854775807 → i + d < 9223372036854775807 → laws_markByteS.l0 k x0 (m : Int) (i : Int) = some (((m + d : Nat) : Int), x0.take i ++ (List.range' m d).map (fun (q : Nat) => (q : Int) % 256))
  | 0, i, k, x0, m, h1, h3, h4, h5 => by
    obtain ⟨k, rfl⟩ := sucK h3
    simp only [laws_markByteS.l0]
    rw [if_neg (by omega), List.take_of_length_le (by omega)]
    simp
  | d + 1, i, k, x0, m, h1, h3, h4, h5 => by
    obtain ⟨k, rfl⟩ := sucK h3
    simp only [laws_markByteS.l0]
    rw [if_pos (by omega), if_pos (by omega), w64n (by omega), w64n (by omega), markByteS_l0 hn d (i + 1) k _ (m + 1) (by simpa using (by omega)) (by omega) (by omega) (by omega)]
    rw [show ((i : Int)).toNat = i from by omega]
    congr 2
    · omega
    · rw [List.range'_succ, List.map_cons, List.take_succ_eq_append_getElem (by simpa using (by omega)), List.getElem_set_self, List.take_set_of_le (Nat.le_refl i), List.append_assoc]
      rfl
theorem markByteS_f (l : List Int) (m k : Nat) (hn : l.length ≤ 1048576) (hm : m ≤ 1099511627776) (hk : l.length < k) : laws_markByteS.f k l (m : Int) = some (((m + l.length : Nat) : Int), (List.range' m l.length).map (fun (q : Nat) => (q : Int) % 256)) := by
  unfold laws_markByteS.f
  have h := markByteS_l0 (fun _ => trivial) l.length 0 k l m (by omega) hk (by omega) (by omega)
  rw [List.take_zero, List.nil_append] at h
  exact h

theorem heldIntS_l0 (n m0 : Nat) (x0 : List Int) (hx : x0 = (List.range' m0 n).map (fun (q : Nat) => (q : Int))) : ∀ (d i k : Nat), i + d = n → d < k → m0 + n < 9223372036854775807 → laws_heldIntS.l0 k x0 ((m0 + i : Nat) : Int) (i : Int) = some ((m0 + n : Nat) : Int)
  | 0, i, k, h1, h3, h4 => by
    obtain ⟨k, rfl⟩ := sucK h3
    have hl : x0.length = n := by rw [hx]; simp
    simp only [laws_heldIntS.l0]
    rw [if_neg (by omega), show m0 + i = m0 + n by omega]
  | d + 1, i, k, h1, h3, h4 => by
    obtain ⟨k, rfl⟩ := sucK h3
    have hl : x0.length = n := by rw [hx]; simp
    have hi : i < x0.length := by omega
    have hv : rd x0 (i : Int) = (fun (q : Nat) => (q : Int)) (m0 + i) := by
      rw [rd_some hi]
      simp only [hx, List.getElem_map, List.getElem_range', Nat.one_mul]
    simp only [laws_heldIntS.l0]
    rw [if_pos (by omega), if_pos (by omega), if_pos hv, w64n (by omega), w64n (by omega)]
    exact heldIntS_l0 n m0 x0 hx d (i + 1) k (by omega) (by omega) h4
theorem heldIntS_f (n m k : Nat) (hn : n ≤ 1048576) (hm : m ≤ 1099511627776) (hk : n < k) : laws_heldIntS.f k ((List.range' m n).map (fun (q : Nat) => (q : Int))) (m : Int) = some ((m + n : Nat) : Int) := by
  unfold laws_heldIntS.f
  exact heldIntS_l0 n m _ rfl n 0 k (by omega) hk (by omega)

theorem get_l0 (x0 : List Int) (hb : Byt x0) (h8 : x0.length ≤ 8) : ∀ (n k : Nat), n ≤ x0.length → n < k → le (x0.drop n) < 18014398509481984 → spec_l02Get.l0 k x0 (le (x0.drop n)) ((n : Int) - 1) = some (if le x0 < 18014398509481984 then le x0 else 4611686018427387904)
  | 0, k, h1, h2, h3 => by
    obtain ⟨k, rfl⟩ := sucK h2
    simp only [spec_l02Get.l0]
    rw [List.drop_zero] at h3 ⊢
    rw [if_neg (by omega), if_pos h3]
  | n + 1, k, h1, h2, h3 => by
    obtain ⟨k, rfl⟩ := sucK h2
    have hn : n < x0.length := by omega
    have hd := List.drop_eq_getElem_cons hn
    have hx := hb x0[n] (List.getElem_mem hn)
    have h0 := le_nonneg (hb.drop (n + 1))
    simp only [spec_l02Get.l0]
    rw [if_pos (by omega)]
    by_cases hc : le (x0.drop (n + 1)) ≥ 70368744177664
    · rw [if_pos hc]
      have hs := le_split x0 (n + 1) (by omega)
      have ht := le_nonneg (hb.take (n + 1))
      have hp := p256 n
      rw [Int.pow_succ] at hs
      have : 256 ^ n * 256 * le (x0.drop (n + 1)) ≥ 1 * 256 * le (x0.drop (n + 1)) := Int.mul_le_mul_of_nonneg_right (by omega) h0
      rw [if_neg (by omega)]
    · rw [if_neg hc, if_pos (by omega), if_pos (by omega)]
      have hv : wrap64 ((wrap64 (le (x0.drop (n + 1)) * 256)) + (wrap64 (rd x0 (((n + 1 : Nat) : Int) - 1)))) = le (x0.drop n) := by
        rw [show ((n + 1 : Nat) : Int) - 1 = (n : Int) by omega, rd_some hn, hd]
        simp only [le]
        unfold wrap64
        omega
      rw [hv, show wrap64 (((n + 1 : Nat) : Int) - 1 - 1) = (n : Int) - 1 by unfold wrap64; omega]
      exact get_l0 x0 hb h8 n k (by omega) (by omega) (by rw [hd]; simp only [le]; omega)
/-- l02Get: the number, or 2^62 where it is 2^54 or more -/
theorem get_f (l : List Int) (hb : Byt l) (h8 : l.length ≤ 8) (k : Nat) (hk : 8 < k) : spec_l02Get.f k l = some (if le l < 18014398509481984 then le l else 4611686018427387904) := by
  unfold spec_l02Get.f
  rw [show wrap64 ((l.length : Int) - 1) = (l.length : Int) - 1 by unfold wrap64; omega]
  have h := get_l0 l hb h8 l.length k (by omega) (by omega) (by simp [le])
  rw [List.drop_length] at h
  exact h

theorem number_l0 (x0 c : List Int) (at_ : Nat) (hb : Byt c) (h8 : c.length ≤ 8) (hat : at_ + c.length ≤ x0.length) (hc : ∀ j, j < c.length → x0.getD (at_ + j) 0 = c.getD j 0) (hx : x0.length ≤ 1048576) : ∀ (n k : Nat), n ≤ c.length → n < k → impl_number.l0 k x0 (at_ : Int) (le (c.drop n)) ((n : Int) - 1) = some (wrap64 (le c))
  | 0, k, h1, h2 => by
    obtain ⟨k, rfl⟩ := sucK h2
    simp only [impl_number.l0]
    rw [List.drop_zero, if_neg (by omega)]
  | n + 1, k, h1, h2 => by
    obtain ⟨k, rfl⟩ := sucK h2
    have hn : n < c.length := by omega
    have hd := List.drop_eq_getElem_cons hn
    have hxn := hb c[n] (List.getElem_mem hn)
    have h0 := le_nonneg (hb.drop (n + 1))
    have hlt := le_lt (hb.drop (n + 1))
    rw [List.length_drop] at hlt
    have h7 : le (c.drop (n + 1)) < 256 ^ 7 := Int.lt_of_lt_of_le hlt (p256_le (by omega))
    have e1 : wrap64 ((at_ : Int) + (((n + 1 : Nat) : Int) - 1)) = ((at_ + n : Nat) : Int) := by unfold wrap64; omega
    have hr : rd x0 ((at_ + n : Nat) : Int) = c[n] := by rw [rdN, hc n hn, List.getD_eq_getElem?_getD, List.getElem?_eq_getElem hn]; rfl
    simp only [impl_number.l0]
    rw [e1, if_pos (by omega), if_pos (by omega), if_pos (by omega), hr]
    have hv : Go.bits .or .u64 (IntKind.u64.wrap (le (c.drop (n + 1)) * 256)) (IntKind.u64.wrap c[n]) = le (c.drop n) := by
      rw [wraps_u64 _ (by omega) (by omega), wraps_u64 _ (by omega) (by omega), bits_join .u64 64 (by decide) wraps_u64 8 _ _ (by omega) (by omega) (by omega) (by omega) (by omega) (by omega), hd]
      simp only [le]
      omega
    rw [hv, show wrap64 (((n + 1 : Nat) : Int) - 1 - 1) = (n : Int) - 1 by unfold wrap64; omega]
    exact number_l0 x0 c at_ hb h8 hat hc hx n k (by omega) (by omega)
/-- number: what bytes at a place say -/
theorem number_f (x0 : List Int) (at_ size : Nat) (hb : Byt x0) (h8 : size ≤ 8) (hat : at_ + size ≤ x0.length) (hx : x0.length ≤ 1048576) (k : Nat) (hk : 8 < k) : impl_number.f k x0 (at_ : Int) (size : Int) = some (wrap64 (le ((x0.drop at_).take size))) := by
  unfold impl_number.f
  have hl : ((x0.drop at_).take size).length = size := by rw [List.length_take, List.length_drop]; omega
  have h := number_l0 x0 ((x0.drop at_).take size) at_ ((hb.drop _).take _) (by omega) (by omega) (fun j hj => by
    rw [List.getD_eq_getElem?_getD, List.getD_eq_getElem?_getD, List.getElem?_take, List.getElem?_drop, if_pos (by omega)]) hx size k (by omega) (by omega)
  rw [List.drop_eq_nil_of_le (by omega)] at h
  rw [show wrap64 ((size : Int) - 1) = (size : Int) - 1 by unfold wrap64; omega]
  exact h
/-- word q of a block -/
def wordAt (x0 : List Int) (q : Nat) : Int := le ((x0.drop (4 * q)).take 4)
theorem wordAt_lt {x0 : List Int} (hb : Byt x0) (q : Nat) : 0 ≤ wordAt x0 q ∧ wordAt x0 q < 4294967296 := by
  unfold wordAt
  refine ⟨le_nonneg ((hb.drop _).take _), ?_⟩
  have h := le_lt ((hb.drop (4 * q)).take 4)
  have hl : ((x0.drop (4 * q)).take 4).length ≤ 4 := by rw [List.length_take]; omega
  exact Int.lt_of_lt_of_le h (p256_le hl)
theorem specDW_l0 (x0 : List Int) (hb : Byt x0) (hl : x0.length = 512) : ∀ (d i k : Nat) (acc : List Int), i + d = 128 → d + 8 < k → acc.length = i → spec_DecodeWords.l0 k x0 acc ((4 * i : Nat) : Int) = some (acc ++ (List.range' i d).map (wordAt x0), 0)
  | 0, i, k, acc, h1, h2, h3 => by
    obtain ⟨k, rfl⟩ := sucK h2
    simp only [spec_DecodeWords.l0]
    rw [if_neg (by omega)]
    simp
  | d + 1, i, k, acc, h1, h2, h3 => by
    obtain ⟨k, rfl⟩ := sucK h2
    have e : wrap64 (((4 * i : Nat) : Int) + 4) = ((4 * (i + 1) : Nat) : Int) := by unfold wrap64; omega
    simp only [spec_DecodeWords.l0]
    rw [e, if_pos (by omega), if_pos (by omega), if_pos (by omega), if_pos (by omega), Int.toNat_natCast, Int.toNat_natCast]
    have hc : (x0.take (4 * (i + 1))).drop (4 * i) = (x0.drop (4 * i)).take 4 := by rw [List.drop_take]; congr 1; omega
    have hw := wordAt_lt hb i
    rw [hc, get_f _ ((hb.drop _).take _) (by rw [List.length_take]; omega) k (by omega), Option.bind_some, if_pos (by omega)]
    rw [show (if le ((x0.drop (4 * i)).take 4) < 18014398509481984 then le ((x0.drop (4 * i)).take 4) else 4611686018427387904) = wordAt x0 i from if_pos (by unfold wordAt at hw; omega)]
    rw [specDW_l0 x0 hb hl d (i + 1) k _ (by omega) (by omega) (by simp [h3]), List.append_assoc, List.range'_succ]
    rfl
theorem implW_l0 (x0 : List Int) (hb : Byt x0) (hl : x0.length = 512) : ∀ (d i k : Nat) (x3 : List Int), i + d = 128 → d + 8 < k → x3.length = 128 → impl_words.l0 k x0 x3 128 (i : Int) = some (x3.take i ++ (List.range' i d).map (wordAt x0))
  | 0, i, k, x3, h1, h2, h3 => by
    obtain ⟨k, rfl⟩ := sucK h2
    simp only [impl_words.l0]
    rw [if_neg (by omega), List.take_of_length_le (by omega)]
    simp
  | d + 1, i, k, x3, h1, h2, h3 => by
    obtain ⟨k, rfl⟩ := sucK h2
    have e : wrap64 (4 * (i : Int)) = ((4 * i : Nat) : Int) := by unfold wrap64; omega
    have hw := wordAt_lt hb i
    have hn := number_f x0 (4 * i) 4 hb (by omega) (by omega) (by omega) k (by omega)
    simp only [impl_words.l0]
    rw [if_pos (by omega), e, show ((4 : Nat) : Int) = 4 from rfl] at *
    rw [hn, Option.bind_some, if_pos (by omega), if_pos (by omega), Int.toNat_natCast, w64n (by omega), implW_l0 x0 hb hl d (i + 1) k _ (by omega) (by omega) (by simpa using h3)]
    rw [show wrap64 (le ((x0.drop (4 * i)).take 4)) = wordAt x0 i from w64 (by unfold wordAt at hw; omega) (by unfold wordAt at hw; omega)]
    rw [List.range'_succ, List.map_cons, List.take_succ_eq_append_getElem (by simpa using (by omega)), List.getElem_set_self, List.take_set_of_le (Nat.le_refl i), List.append_assoc]
    rfl
/-- what both answer -/
def dwR (l : List Int) : List Int × Int := if l.length = 512 then ((List.range' 0 128).map (wordAt l), 0) else ([], 21)
theorem spec_f (l : List Int) (hb : Byt l) (k : Nat) (hk : 200 < k) : spec_DecodeWords.f k l = some (dwR l) := by
  unfold spec_DecodeWords.f dwR
  by_cases h : l.length = 512
  · rw [if_pos (by omega), if_pos h]
    have := specDW_l0 l hb h 128 0 k [] (by omega) (by omega) rfl
    rw [List.nil_append] at this
    exact this
  · rw [if_neg (by omega), if_neg h]
theorem impl_f (l : List Int) (hb : Byt l) (k : Nat) (hk : 200 < k) : impl_DecodeWords.f k l = some (dwR l) := by
  unfold impl_DecodeWords.f dwR
  by_cases h : l.length = 512
  · rw [if_pos (by omega), if_pos h]
    unfold impl_words.f
    have e : wrap64 ((l.length : Int) / 4) = 128 := by unfold wrap64; omega
    rw [e, if_pos (by omega), if_pos (by decide)]
    have := implW_l0 l hb h 128 0 k (List.replicate ((128 : Int)).toNat 0) (by omega) (by omega) (by simp)
    rw [List.take_zero, List.nil_append] at this
    simp only [Option.bind_some]
    rw [show ((List.replicate ((128 : Int)).toNat (0 : Int)).length : Int) = 128 by simp]
    have h0 : ((0 : Nat) : Int) = 0 := rfl
    rw [h0] at this
    rw [this]
    rfl
  · rw [if_neg (by omega), if_neg h]
theorem dwR_len (l : List Int) : (dwR l).1.length ≤ 128 := by
  unfold dwR
  split <;> simp
theorem FnExactDecodeWords : laws_FnExactDecodeWords.Pure := by
  intro l _ _ hwf
  have hb : Byt l := by
    intro x hx
    exact Go.bounds_u8 (hwf x hx)
  refine ⟨2000000, ?_⟩
  unfold laws_FnExactDecodeWords.f
  by_cases hl : (l.length : Int) > 1048576
  · rw [if_pos hl]
  · rw [if_neg hl]
    have hn : l.length ≤ 1048576 := by omega
    have hr := dwR_len l
    have t1 := fun k (hk : l.length < k) => toByteS_f l k hn hk
    have e1 := fun k (hk : l.length < k) => eqByteS_f l l k hn hk
    have e2 := fun k (hk : 128 < k) => eqIntS_f (dwR l).1 (dwR l).1 k (by omega) (by omega)
    have m1 := fun k (hk : l.length < k) => markByteS_f l 1 k hn (by omega) hk
    have m2 := fun k (hk : 128 < k) => markIntS_f (dwR l).1 1 k (by omega) (by omega) (by omega)
    have h2 := fun k (hk : 128 < k) => heldIntS_f (dwR l).1.length 1 k (by omega) (by omega) (by omega)
    have s1 := fun k (hk : 200 < k) => spec_f l hb k hk
    have i1 := fun k (hk : 200 < k) => impl_f l hb k hk
    have c1 : ((1 : Nat) : Int) = 1 := rfl
    rw [c1] at m1 m2 h2
    have n1 : ¬ (((1 + l.length : Nat) : Int) < 0) := by omega
    have n2 : ¬ (((1 + (dwR l).1.length : Nat) : Int) < 0) := by omega
    simp (disch := omega) only [t1, s1, i1, e2, Option.bind_some, decide_true, if_true, bne_self_eq_false]
    rw [show (2000000 : Nat) = 1999999 + 1 from rfl]
    simp only [laws_FnExactDecodeWords.j0, Bool.false_eq_true, if_false]
    simp (disch := omega) only [t1, e1, m1, e2, Option.bind_some, decide_true, if_true, if_neg n1, bne_self_eq_false]
    rw [show (1999999 : Nat) = 1999998 + 1 from rfl]
    simp only [laws_FnExactDecodeWords.j1, Bool.false_eq_true, if_false]
    simp (disch := omega) only [t1, i1, m2, h2, e2, Option.bind_some, decide_true, if_true, if_neg n2, bne_self_eq_false]
    rw [show (1999998 : Nat) = 1999997 + 1 from rfl]
    simp only [laws_FnExactDecodeWords.j2, Bool.false_eq_true, if_false]
    simp (disch := omega) only [h2, Option.bind_some, if_true, if_neg n2]

end Go.Proofs.Ytjhaofdnlnbajaa.Pure
