/- The law of EncodeWords answers true for every slice of ints; no condition. -/
import Derived.Test.YtjhaofdnlnbajaaPFnExactEncodeWordsx3
import Derived.Lib.EndianBits
import Derived.Laws.BitsLemmas
import Derived.OpenShut
import Derived.Lib.EndianBits
import Derived.Laws.BitsLemmas
import Derived.OpenShut
namespace Go.Proofs.Ytjhaofdnlnbajaa.Pure
open Go.RowKit Go.Proofs.Ytjhaofdnlnbajaa.PFnExactEncodeWords Go.Proofs.YtjhaofdnlnbajaaW.PrintWords Go.Proofs.YtjhaofdnlnbajaaW.PrintLast
set_option linter.unusedVariables false
set_option linter.unusedVariables false

theorem w64 {x : Int} (h0 : -9223372036854775808 ≤ x) (h1 : x ≤ 9223372036854775807) : wrap64 x = x := by unfold wrap64; omega
theorem w64n {n : Nat} (h : n < 9223372036854775807) : wrap64 ((n : Int) + 1) = ((n + 1 : Nat) : Int) := by unfold wrap64; omega
theorem sucK {n k : Nat} (h : n < k) : ∃ m, k = m + 1 := ⟨k - 1, by omega⟩
theorem rdN (xs : List Int) (i : Nat) : rd xs (i : Int) = xs.getD i 0 := by simp [rd]
theorem rd_some {xs : List Int} {i : Nat} (h : i < xs.length) : rd xs (i : Int) = xs[i] := by rw [rdN, List.getD_eq_getElem?_getD, List.getElem?_eq_getElem h]; rfl

/-- a list of bytes -/
def Byt (l : List Int) : Prop := ∀ x ∈ l, 0 ≤ x ∧ x ≤ 255
/-- the number that bytes say, the lowest first -/
def le : List Int → Int
  | [] => 0
  | b :: bs => b + 256 * le bs
/-- a number's lowest n bytes, the lowest first -/
def leB (v : Int) : Nat → List Int
  | 0 => []
  | n + 1 => v % 256 :: leB (v / 256) n
theorem leB_length (v : Int) (n : Nat) : (leB v n).length = n := by
  induction n generalizing v with
  | zero => rfl
  | succ n ih => simp [leB, ih]
theorem leB_byt (v : Int) (n : Nat) : Byt (leB v n) := by
  induction n generalizing v with
  | zero => intro x hx; simp [leB] at hx
  | succ n ih =>
    intro x hx
    simp only [leB, List.mem_cons] at hx
    rcases hx with rfl | hx
    · omega
    · exact ih _ x hx
theorem leB_snoc (v : Int) (n : Nat) : leB v (n + 1) = leB v n ++ [v / 256 ^ n % 256] := by
  induction n generalizing v with
  | zero => simp [leB]
  | succ n ih =>
    rw [leB, ih (v / 256), leB, List.cons_append, Int.ediv_ediv_of_nonneg (by omega), Int.pow_succ', ]
theorem Byt.tail {b : Int} {l : List Int} (h : Byt (b :: l)) : Byt l := fun x hx => h x (List.mem_cons_of_mem _ hx)
theorem Byt.drop {l : List Int} (h : Byt l) (n : Nat) : Byt (l.drop n) := fun x hx => h x (List.mem_of_mem_drop hx)
theorem Byt.take {l : List Int} (h : Byt l) (n : Nat) : Byt (l.take n) := fun x hx => h x (List.mem_of_mem_take hx)
theorem le_nonneg {l : List Int} (h : Byt l) : 0 ≤ le l := by
  induction l with
  | nil => simp [le]
  | cons b l ih => have h1 := ih h.tail; have h2 := h b (by simp); simp only [le]; omega
theorem le_lt {l : List Int} (h : Byt l) : le l < 256 ^ l.length := by
  induction l with
  | nil => simp [le]
  | cons b l ih =>
    have h1 := ih h.tail
    have h2 := h b (by simp)
    simp only [le, List.length_cons, Int.pow_succ]
    omega
theorem le_split (l : List Int) (n : Nat) (h : n ≤ l.length) : le l = le (l.take n) + 256 ^ n * le (l.drop n) := by
  induction n generalizing l with
  | zero => simp [le]
  | succ n ih =>
    cases l with
    | nil => simp at h
    | cons b l =>
      simp only [List.take_succ_cons, List.drop_succ_cons, le]
      rw [ih l (by simpa using h), Int.pow_succ', Int.mul_add, Int.mul_assoc]
      omega
theorem le_leB (v : Int) (n : Nat) (h0 : 0 ≤ v) (h1 : v < 256 ^ n) : le (leB v n) = v := by
  induction n generalizing v with
  | zero => simp at h1; simp [leB, le]; omega
  | succ n ih =>
    rw [Int.pow_succ] at h1
    simp only [leB, le]
    rw [ih (v / 256) (by omega) (by omega)]
    omega
theorem leB_le {l : List Int} (h : Byt l) : leB (le l) l.length = l := by
  induction l with
  | nil => rfl
  | cons b l ih =>
    have h2 := h b (by simp)
    simp only [le, List.length_cons, leB]
    rw [show (b + 256 * le l) % 256 = b by omega, show (b + 256 * le l) / 256 = le l by omega, ih h.tail]
theorem p256 (n : Nat) : (0 : Int) < 256 ^ n := Int.pow_pos (by decide)
theorem p256_le {m n : Nat} (h : m ≤ n) : (256 : Int) ^ m ≤ 256 ^ n := by
  obtain ⟨d, rfl⟩ := Nat.exists_eq_add_of_le h
  have h1 : (256 : Int) ^ m * 1 ≤ 256 ^ m * 256 ^ d := Int.mul_le_mul_of_nonneg_left (by have := p256 d; omega) (by have := p256 m; omega)
  rw [Int.pow_add]
  omega

theorem toIntS_l0 (x0 : List Int) (hn : x0.length < 9223372036854775807) : ∀ (d i k : Nat) (x3 : List Int), i + d = x0.length → x3.length = x0.length → d < k → laws_toIntS.l0 k x0 x3 (i : Int) = some (x3.take i ++ x0.drop i)
  | 0, i, k, x3, h1, h2, h3 => by
    obtain ⟨k, rfl⟩ := sucK h3
    simp only [laws_toIntS.l0]
    rw [if_neg (by omega), List.take_of_length_le (by omega), List.drop_eq_nil_of_le (by omega), List.append_nil]
  | d + 1, i, k, x3, h1, h2, h3 => by
    obtain ⟨k, rfl⟩ := sucK h3
    simp only [laws_toIntS.l0]
    rw [if_pos (by omega), if_pos (by omega), if_pos (by omega), w64n (by omega), toIntS_l0 x0 hn d (i + 1) k _ (by omega) (by simpa using h2) (by omega)]
    have hi : i < x0.length := by omega
    rw [Int.toNat_natCast, rd_some hi, List.take_succ_eq_append_getElem (by rw [List.length_set]; omega), List.getElem_set_self, List.take_set_of_le (Nat.le_refl i), List.append_assoc, List.drop_eq_getElem_cons hi]
    rfl
theorem toIntS_f (l : List Int) (k : Nat) (hn : l.length ≤ 1048576) (hk : l.length < k) : laws_toIntS.f k l = some l := by
  unfold laws_toIntS.f
  rw [if_pos (by omega), if_pos (by omega)]
  have h := toIntS_l0 l (by omega) l.length 0 k (List.replicate ((l.length : Int)).toNat 0) (by omega) (by simp) hk
  rw [List.take_zero, List.drop_zero, List.nil_append] at h
  exact h

theorem eqByteS_l0 (x0 x1 : List Int) (hn : x0.length < 9223372036854775807) (hl : x0.length = x1.length) : ∀ (d i k : Nat), i + d = x0.length → d < k → laws_eqByteS.l0 k x0 x1 (i : Int) = some (decide (x0.drop i = x1.drop i))
  | 0, i, k, h1, h3 => by
    obtain ⟨k, rfl⟩ := sucK h3
    simp only [laws_eqByteS.l0]
    rw [if_neg (by omega), List.drop_eq_nil_of_le (by omega), List.drop_eq_nil_of_le (by omega)]
    simp
  | d + 1, i, k, h1, h3 => by
    obtain ⟨k, rfl⟩ := sucK h3
    simp only [laws_eqByteS.l0]
    have hi : i < x0.length := by omega
    have hi1 : i < x1.length := by omega
    have hd0 := List.drop_eq_getElem_cons hi
    have hd1 := List.drop_eq_getElem_cons hi1
    rw [if_pos (by omega), if_pos (by omega), if_pos (by omega), w64n (by omega), eqByteS_l0 x0 x1 hn hl d (i + 1) k (by omega) (by omega), rd_some hi, rd_some hi1]
    by_cases h : x0[i] = x1[i]
    · rw [if_pos h]
      simp only [hd0, hd1, List.cons.injEq, h, true_and]
    · rw [if_neg h]
      simp only [hd0, hd1, List.cons.injEq, h, false_and, decide_false]
theorem eqByteS_f (a b : List Int) (k : Nat) (hn : a.length ≤ 1048576) (hk : a.length < k) : laws_eqByteS.f k a b = some (decide (a = b)) := by
  unfold laws_eqByteS.f
  by_cases h : a.length = b.length
  · rw [if_pos (by omega)]
    exact eqByteS_l0 a b (by omega) h a.length 0 k (by omega) hk
  · rw [if_neg (by omega)]
    have : a ≠ b := fun e => h (by rw [e])
    simp [this]

theorem eqIntS_l0 (x0 x1 : List Int) (hn : x0.length < 9223372036854775807) (hl : x0.length = x1.length) : ∀ (d i k : Nat), i + d = x0.length → d < k → laws_eqIntS.l0 k x0 x1 (i : Int) = some (decide (x0.drop i = x1.drop i))
  | 0, i, k, h1, h3 => by
    obtain ⟨k, rfl⟩ := sucK h3
    simp only [laws_eqIntS.l0]
    rw [if_neg (by omega), List.drop_eq_nil_of_le (by omega), List.drop_eq_nil_of_le (by omega)]
    simp
  | d + 1, i, k, h1, h3 => by
    obtain ⟨k, rfl⟩ := sucK h3
    simp only [laws_eqIntS.l0]
    have hi : i < x0.length := by omega
    have hi1 : i < x1.length := by omega
    have hd0 := List.drop_eq_getElem_cons hi
    have hd1 := List.drop_eq_getElem_cons hi1
    rw [if_pos (by omega), if_pos (by omega), if_pos (by omega), w64n (by omega), eqIntS_l0 x0 x1 hn hl d (i + 1) k (by omega) (by omega), rd_some hi, rd_some hi1]
    by_cases h : x0[i] = x1[i]
    · rw [if_pos h]
      simp only [hd0, hd1, List.cons.injEq, h, true_and]
    · rw [if_neg h]
      simp only [hd0, hd1, List.cons.injEq, h, false_and, decide_false]
theorem eqIntS_f (a b : List Int) (k : Nat) (hn : a.length ≤ 1048576) (hk : a.length < k) : laws_eqIntS.f k a b = some (decide (a = b)) := by
  unfold laws_eqIntS.f
  by_cases h : a.length = b.length
  · rw [if_pos (by omega)]
    exact eqIntS_l0 a b (by omega) h a.length 0 k (by omega) hk
  · rw [if_neg (by omega)]
    have : a ≠ b := fun e => h (by rw [e])
    simp [this]

/-- what mark leaves -/
theorem markIntS_l0 (hn : ∀ x : Int, True) : ∀ (d i k : Nat) (x0 : List Int) (m : Nat), i + d = x0.length → d < k → m + d < 9223372036854775807 → i + d < 9223372036854775807 → laws_markIntS.l0 k x0 (m : Int) (i : Int) = some (((m + d : Nat) : Int), x0.take i ++ (List.range' m d).map (fun (q : Nat) => (q : Int)))
  | 0, i, k, x0, m, h1, h3, h4, h5 => by
    obtain ⟨k, rfl⟩ := sucK h3
    simp only [laws_markIntS.l0]
    rw [if_neg (by omega), List.take_of_length_le (by omega)]
    simp
  | d + 1, i, k, x0, m, h1, h3, h4, h5 => by
    obtain ⟨k, rfl⟩ := sucK h3
    simp only [laws_markIntS.l0]
    rw [if_pos (by omega), if_pos (by omega), w64n (by omega), w64n (by omega), markIntS_l0 hn d (i + 1) k _ (m + 1) (by simpa using (by omega)) (by omega) (by omega) (by omega)]
    rw [show ((i : Int)).toNat = i from by omega]
    congr 2
    · omega
    · rw [List.range'_succ, List.map_cons, List.take_succ_eq_append_getElem (by simpa using (by omega)), List.getElem_set_self, List.take_set_of_le (Nat.le_refl i), List.append_assoc]
      rfl
theorem markIntS_f (l : List Int) (m k : Nat) (hn : l.length ≤ 1048576) (hm : m ≤ 1099511627776) (hk : l.length < k) : laws_markIntS.f k l (m : Int) = some (((m + l.length : Nat) : Int), (List.range' m l.length).map (fun (q : Nat) => (q : Int))) := by
  unfold laws_markIntS.f
  have h := markIntS_l0 (fun _ => trivial) l.length 0 k l m (by omega) hk (by omega) (by omega)
  rw [List.take_zero, List.nil_append] at h
  exact h

/-- what mark leaves -/
theorem markByteS_l0 (hn : ∀ x : Int, True) : ∀ (d i k : Nat) (x0 : List Int) (m : Nat), i + d = x0.length → d < k → m + d < 9223372036854775807 → i + d < 9223372036854775807 → laws_markByteS.l0 k x0 (m : Int) (i : Int) = some (((m + d : Nat) : Int), x0.take i ++ (List.range' m d).map (fun (q : Nat) => (q : Int) % 256))
  | 0, i, k, x0, m, h1, h3, h4, h5 => by
    obtain ⟨k, rfl⟩ := sucK h3
    simp only [laws_markByteS.l0]
    rw [if_neg (by omega), List.take_of_length_le (by omega)]
    simp
  | d + 1, i, k, x0, m, h1, h3, h4, h5 => by
    obtain ⟨k, rfl⟩ := sucK h3
    simp only [laws_markByteS.l0]
    rw [if_pos (by omega), if_pos (by omega), w64n (by omega), w64n (by omega), markByteS_l0 hn d (i + 1) k _ (m + 1) (by simpa using (by omega)) (by omega) (by omega) (by omega)]
    rw [show ((i : Int)).toNat = i from by omega]
    congr 2
    · omega
    · rw [List.range'_succ, List.map_cons, List.take_succ_eq_append_getElem (by simpa using (by omega)), List.getElem_set_self, List.take_set_of_le (Nat.le_refl i), List.append_assoc]
      rfl
theorem markByteS_f (l : List Int) (m k : Nat) (hn : l.length ≤ 1048576) (hm : m ≤ 1099511627776) (hk : l.length < k) : laws_markByteS.f k l (m : Int) = some (((m + l.length : Nat) : Int), (List.range' m l.length).map (fun (q : Nat) => (q : Int) % 256)) := by
  unfold laws_markByteS.f
  have h := markByteS_l0 (fun _ => trivial) l.length 0 k l m (by omega) hk (by omega) (by omega)
  rw [List.take_zero, List.nil_append] at h
  exact h

theorem heldByteS_l0 (n m0 : Nat) (x0 : List Int) (hx : x0 = (List.range' m0 n).map (fun (q : Nat) => (q : Int) % 256)) : ∀ (d i k : Nat), i + d = n → d < k → m0 + n < 9223372036854775807 → laws_heldByteS.l0 k x0 ((m0 + i : Nat) : Int) (i : Int) = some ((m0 + n : Nat) : Int)
  | 0, i, k, h1, h3, h4 => by
    obtain ⟨k, rfl⟩ := sucK h3
    have hl : x0.length = n := by rw [hx]; simp
    simp only [laws_heldByteS.l0]
    rw [if_neg (by omega), show m0 + i = m0 + n by omega]
  | d + 1, i, k, h1, h3, h4 => by
    obtain ⟨k, rfl⟩ := sucK h3
    have hl : x0.length = n := by rw [hx]; simp
    have hi : i < x0.length := by omega
    have hv : rd x0 (i : Int) = (fun (q : Nat) => (q : Int) % 256) (m0 + i) := by
      rw [rd_some hi]
      simp only [hx, List.getElem_map, List.getElem_range', Nat.one_mul]
    simp only [laws_heldByteS.l0]
    rw [if_pos (by omega), if_pos (by omega), if_pos hv, w64n (by omega), w64n (by omega)]
    exact heldByteS_l0 n m0 x0 hx d (i + 1) k (by omega) (by omega) h4
theorem heldByteS_f (n m k : Nat) (hn : n ≤ 1048576) (hm : m ≤ 1099511627776) (hk : n < k) : laws_heldByteS.f k ((List.range' m n).map (fun (q : Nat) => (q : Int) % 256)) (m : Int) = some ((m + n : Nat) : Int) := by
  unfold laws_heldByteS.f
  exact heldByteS_l0 n m _ rfl n 0 k (by omega) hk (by omega)

theorem l02Put_l0 (n : Nat) (hn : n ≤ 4096) : ∀ (d i k : Nat) (v : Int) (x5 : List Int), i + d = n → d < k → 0 ≤ v → v ≤ 9223372036854775807 → x5.length ≤ 4096 + i → spec_l02Put.l0 k v (n : Int) x5 (i : Int) = some (x5 ++ leB v d)
  | 0, i, k, v, x5, h1, h2, h3, h4, h5 => by
    obtain ⟨k, rfl⟩ := sucK h2
    simp only [spec_l02Put.l0]
    rw [if_neg (by omega)]
    simp [leB]
  | d + 1, i, k, v, x5, h1, h2, h3, h4, h5 => by
    obtain ⟨k, rfl⟩ := sucK h2
    simp only [spec_l02Put.l0]
    rw [if_pos (by omega), if_pos (by omega), w64n (by omega), Int.tdiv_eq_ediv_of_nonneg h3, Int.tmod_eq_emod_of_nonneg h3, w64 (by omega) (by omega), l02Put_l0 n hn d (i + 1) k _ _ (by omega) (by omega) (by omega) (by omega) (by simp; omega), List.append_assoc]
    simp only [leB, List.cons_append, List.nil_append]
    rw [Int.emod_emod_of_dvd _ (by decide)]
theorem l02Put_f (v : Int) (n k : Nat) (hn : n ≤ 4096) (h0 : 0 ≤ v) (h1 : v ≤ 9223372036854775807) (hk : n < k) : spec_l02Put.f k v (n : Int) = some (leB v n) := by
  unfold spec_l02Put.f
  have h := l02Put_l0 n hn n 0 k v [] (by omega) hk h0 h1 (by simp)
  rw [List.nil_append] at h
  exact h

theorem put_l0 (v : Int) (at_ size : Nat) (h0 : 0 ≤ v) (h1 : v ≤ 9223372036854775807) (h8 : size ≤ 8) : ∀ (d i k : Nat) (x0 : List Int), i + d = size → d < k → at_ + size ≤ x0.length → x0.length ≤ 1048576 → impl_put_int.l0 k x0 (at_ : Int) v (size : Int) (i : Int) = some (x0.take (at_ + i) ++ leB (v / 256 ^ i) d ++ x0.drop (at_ + size))
  | 0, i, k, x0, e1, e2, e3, e4 => by
    obtain ⟨k, rfl⟩ := sucK e2
    simp only [impl_put_int.l0]
    rw [if_neg (by omega), show at_ + i = at_ + size by omega]
    simp [leB]
  | d + 1, i, k, x0, e1, e2, e3, e4 => by
    obtain ⟨k, rfl⟩ := sucK e2
    simp only [impl_put_int.l0]
    have hw : wrap64 ((at_ : Int) + (i : Int)) = ((at_ + i : Nat) : Int) := by unfold wrap64; omega
    have h8i : wrap64 (8 * (i : Int)) = ((8 * i : Nat) : Int) := by unfold wrap64; omega
    rw [hw, h8i, if_pos (by omega), if_pos (by omega), if_pos (by omega), if_pos (by omega), w64n (by omega), put_l0 v at_ size h0 h1 h8 d (i + 1) k _ (by omega) (by omega) (by simpa using e3) (by simpa using e4)]
    have hv : (shr .u64 (IntKind.u64.wrap v) ((8 * i : Nat) : Int)) % 256 = v / 256 ^ i % 256 := by
      rw [wraps_u64 _ h0 (by omega)]
      unfold shr
      rw [Int.toNat_natCast, Nat.min_eq_left (by simp [IntKind.bits]; omega), Int.pow_mul, show (2 : Int) ^ 8 = 256 by decide]
    rw [hv, Int.toNat_natCast]
    congr 1
    have hlt : at_ + i < x0.length := by omega
    rw [show at_ + (i + 1) = (at_ + i) + 1 by omega, List.take_succ_eq_append_getElem (by simpa using hlt), List.getElem_set_self, List.take_set_of_le (Nat.le_refl _), List.drop_set_of_lt (by omega), leB, Int.ediv_ediv_of_nonneg (by have := p256 i; omega), ← Int.pow_succ]
    simp
/-- put: a number's bytes at a place -/
theorem put_f (x0 : List Int) (at_ size : Nat) (v : Int) (h0 : 0 ≤ v) (h1 : v ≤ 9223372036854775807) (h8 : size ≤ 8) (hat : at_ + size ≤ x0.length) (hx : x0.length ≤ 1048576) (k : Nat) (hk : 8 < k) : impl_put_int.f k x0 (at_ : Int) (size : Int) v = some (x0.take at_ ++ leB v size ++ x0.drop (at_ + size)) := by
  unfold impl_put_int.f
  have h := put_l0 v at_ size h0 h1 h8 size 0 k x0 (by omega) (by omega) hat hx
  rw [Int.pow_zero, Int.ediv_one] at h
  exact h
def okW (v : Int) : Bool := decide (0 ≤ v ∧ v ≤ 4294967295)
def fl : List Int → List Int
  | [] => []
  | v :: vs => leB v 4 ++ fl vs
theorem fl_length (l : List Int) : (fl l).length = 4 * l.length := by
  induction l with
  | nil => rfl
  | cons v l ih => simp [fl, leB_length, ih]; omega
theorem specEW_l0 (w : List Int) (hl : w.length = 128) : ∀ (d i k : Nat) (acc : List Int), i + d = 128 → d + 8 < k → acc.length = 4 * i → spec_EncodeWords.l0 k acc w 128 (i : Int) = some (if (w.drop i).all okW then (acc ++ fl (w.drop i), 0) else ([], 7))
  | 0, i, k, acc, h1, h2, h3 => by
    obtain ⟨k, rfl⟩ := sucK h2
    simp only [spec_EncodeWords.l0]
    rw [if_neg (by omega), List.drop_eq_nil_of_le (by omega)]
    simp [fl]
  | d + 1, i, k, acc, h1, h2, h3 => by
    obtain ⟨k, rfl⟩ := sucK h2
    have hi : i < w.length := by omega
    simp only [spec_EncodeWords.l0]
    rw [if_pos (by omega), if_pos (by omega), if_pos (by omega), rd_some hi, List.drop_eq_getElem_cons hi]
    by_cases h0 : w[i] < 0
    · rw [if_pos h0, List.all_cons, show okW w[i] = false by simp [okW]; omega]
      simp
    · by_cases h4 : w[i] > 4294967295
      · rw [if_neg h0, if_pos h4, List.all_cons, show okW w[i] = false by simp [okW]; omega]
        simp
      · have hp := l02Put_f w[i] 4 k (by omega) (by omega) (by omega) (by omega)
        rw [show ((4 : Nat) : Int) = 4 from rfl] at hp
        rw [if_neg h0, if_neg h4, hp, Option.bind_some, leB_length, if_pos (by omega), w64n (by omega), specEW_l0 w hl d (i + 1) k _ (by omega) (by omega) (by rw [List.length_append, leB_length]; omega), List.all_cons, show okW w[i] = true by simp [okW]; omega]
        simp [fl]
theorem implEW_l0 (w : List Int) (hl : w.length = 128) : ∀ (d i k : Nat) (b : List Int), i + d = 128 → d + 16 < k → b.length = 512 → impl_EncodeWords.l0 k b w 128 (i : Int) = some (if (w.drop i).all okW then (b.take (4 * i) ++ fl (w.drop i), 0) else ([], 7))
  | 0, i, k, b, h1, h2, h3 => by
    obtain ⟨k, rfl⟩ := sucK h2
    simp only [impl_EncodeWords.l0]
    rw [if_neg (by omega), List.drop_eq_nil_of_le (by omega), List.take_of_length_le (by omega)]
    simp [fl]
  | d + 1, i, k, b, h1, h2, h3 => by
    obtain ⟨k, rfl⟩ := sucK h2
    have hi : i < w.length := by omega
    have e : wrap64 (4 * (i : Int)) = ((4 * i : Nat) : Int) := by unfold wrap64; omega
    simp only [impl_EncodeWords.l0]
    unfold impl_within.f
    rw [if_pos (by omega), if_pos (by omega), if_pos (by omega), rd_some hi, List.drop_eq_getElem_cons hi, e]
    by_cases h0 : w[i] ≥ 0
    · rw [if_pos h0]
      by_cases h4 : w[i] ≤ 4294967295
      · have hp := put_f b (4 * i) 4 w[i] (by omega) (by omega) (by omega) (by omega) (by omega) k (by omega)
        rw [show ((4 : Nat) : Int) = 4 from rfl] at hp
        simp only [Option.bind_some, decide_eq_true h4, if_true]
        rw [hp]
        simp only [Option.bind_some]
        have hlen : (b.take (4 * i) ++ leB w[i] 4 ++ b.drop (4 * i + 4)).length = 512 := by simp [leB_length]; omega
        rw [w64n (by omega), implEW_l0 w hl d (i + 1) k _ (by omega) (by omega) hlen, List.all_cons, show okW w[i] = true by simp [okW]; omega]
        have ht : (b.take (4 * i) ++ leB w[i] 4 ++ b.drop (4 * i + 4)).take (4 * (i + 1)) = b.take (4 * i) ++ leB w[i] 4 := by
          rw [List.take_left' (by rw [List.length_append, leB_length, List.length_take]; omega)]
        rw [ht]
        simp [fl]
      · simp only [Option.bind_some, decide_eq_false h4]
        rw [List.all_cons, show okW w[i] = false by simp [okW]; omega]
        simp
    · rw [if_neg h0, List.all_cons, show okW w[i] = false by simp [okW]; omega]
      simp
/-- what both answer -/
def ewR (l : List Int) : List Int × Int := if l.length = 128 then (if l.all okW then (fl l, 0) else ([], 7)) else ([], 7)
theorem spec_f (l : List Int) (k : Nat) (hk : 200 < k) : spec_EncodeWords.f k l = some (ewR l) := by
  unfold spec_EncodeWords.f ewR
  by_cases h : l.length = 128
  · rw [if_pos (by omega), if_pos h, show (l.length : Int) = 128 by omega]
    have := specEW_l0 l h 128 0 k [] (by omega) (by omega) rfl
    simpa using this
  · rw [if_neg (by omega), if_neg h]
theorem impl_f (l : List Int) (k : Nat) (hk : 200 < k) : impl_EncodeWords.f k l = some (ewR l) := by
  unfold impl_EncodeWords.f ewR
  by_cases h : l.length = 128
  · rw [if_pos (by omega), if_pos h, if_pos (by decide), show (l.length : Int) = 128 by omega]
    have := implEW_l0 l h 128 0 k (List.replicate 512 0) (by omega) (by omega) List.length_replicate
    rw [List.drop_zero, Nat.mul_zero, List.take_zero, List.nil_append] at this
    exact this
  · rw [if_neg (by omega), if_neg h]
theorem ewR_len (l : List Int) : (ewR l).1.length ≤ 512 := by
  unfold ewR
  split
  · split
    · rw [fl_length]; omega
    · simp
  · simp
theorem FnExactEncodeWords : laws_FnExactEncodeWords.Pure := by
  intro l _ _ hwf
  refine ⟨2000000, ?_⟩
  unfold laws_FnExactEncodeWords.f
  by_cases hl : (l.length : Int) > 1048576
  · rw [if_pos hl]
  · rw [if_neg hl]
    have hn : l.length ≤ 1048576 := by omega
    have hr := ewR_len l
    have t1 := fun k (hk : l.length < k) => toIntS_f l k hn hk
    have e1 := fun k (hk : l.length < k) => eqIntS_f l l k hn hk
    have e2 := fun k (hk : 512 < k) => eqByteS_f (ewR l).1 (ewR l).1 k (by omega) (by omega)
    have m1 := fun k (hk : l.length < k) => markIntS_f l 1 k hn (by omega) hk
    have m2 := fun k (hk : 512 < k) => markByteS_f (ewR l).1 1 k (by omega) (by omega) (by omega)
    have h2 := fun k (hk : 512 < k) => heldByteS_f (ewR l).1.length 1 k (by omega) (by omega) (by omega)
    have s1 := fun k (hk : 200 < k) => spec_f l k hk
    have i1 := fun k (hk : 200 < k) => impl_f l k hk
    have c1 : ((1 : Nat) : Int) = 1 := rfl
    rw [c1] at m1 m2 h2
    have n1 : ¬ (((1 + l.length : Nat) : Int) < 0) := by omega
    have n2 : ¬ (((1 + (ewR l).1.length : Nat) : Int) < 0) := by omega
    simp (disch := omega) only [t1, s1, i1, e2, Option.bind_some, decide_true, if_true, bne_self_eq_false]
    rw [show (2000000 : Nat) = 1999999 + 1 from rfl]
    simp only [laws_FnExactEncodeWords.j0, Bool.false_eq_true, if_false]
    simp (disch := omega) only [t1, e1, m1, e2, Option.bind_some, decide_true, if_true, if_neg n1, bne_self_eq_false]
    rw [show (1999999 : Nat) = 1999998 + 1 from rfl]
    simp only [laws_FnExactEncodeWords.j1, Bool.false_eq_true, if_false]
    simp (disch := omega) only [t1, i1, m2, h2, e2, Option.bind_some, decide_true, if_true, if_neg n2, bne_self_eq_false]
    rw [show (1999998 : Nat) = 1999997 + 1 from rfl]
    simp only [laws_FnExactEncodeWords.j2, Bool.false_eq_true, if_false]
    simp (disch := omega) only [h2, Option.bind_some, if_true, if_neg n2]

end Go.Proofs.Ytjhaofdnlnbajaa.Pure
