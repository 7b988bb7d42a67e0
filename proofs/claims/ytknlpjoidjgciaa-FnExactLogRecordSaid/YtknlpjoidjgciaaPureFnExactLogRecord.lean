/- The law of LogRecord answers true at every argument; no condition. -/
import Derived.Test.YtknlpjoidjgciaaPFnExactLogRecordx17
import Derived.OpenShut
namespace Go.Proofs.Ytknlpjoidjgciaa.Pure
open Go.RowKit Go.Proofs.Ytknlpjoidjgciaa.PFnExactLogRecord Go.Proofs.YtknlpjoidjgciaaW.PrintWords Go.Proofs.YtknlpjoidjgciaaW.PrintLast
set_option linter.unusedVariables false

theorem w64 {x : Int} (h0 : -9223372036854775808 ≤ x) (h1 : x ≤ 9223372036854775807) : wrap64 x = x := by unfold wrap64; omega
theorem w64n {n : Nat} (h : n < 9223372036854775807) : wrap64 ((n : Int) + 1) = ((n + 1 : Nat) : Int) := by unfold wrap64; omega
theorem sucK {n k : Nat} (h : n < k) : ∃ m, k = m + 1 := ⟨k - 1, by omega⟩
theorem rdN (xs : List Int) (i : Nat) : rd xs (i : Int) = xs.getD i 0 := by simp [rd]
theorem rd_some {xs : List Int} {i : Nat} (h : i < xs.length) : rd xs (i : Int) = xs[i] := by rw [rdN, List.getD_eq_getElem?_getD, List.getElem?_eq_getElem h]; rfl

theorem toByteS_l0 (x0 : List Int) (hn : x0.length < 9223372036854775807) : ∀ (d i k : Nat) (x3 : List Int), i + d = x0.length → x3.length = x0.length → d < k → laws_toByteS.l0 k x0 x3 (i : Int) = some (x3.take i ++ x0.drop i)
  | 0, i, k, x3, h1, h2, h3 => by
    obtain ⟨k, rfl⟩ := sucK h3
    simp only [laws_toByteS.l0]
    rw [if_neg (by omega), List.take_of_length_le (by omega), List.drop_eq_nil_of_le (by omega), List.append_nil]
  | d + 1, i, k, x3, h1, h2, h3 => by
    obtain ⟨k, rfl⟩ := sucK h3
    simp only [laws_toByteS.l0]
    rw [if_pos (by omega), if_pos (by omega), if_pos (by omega), w64n (by omega), toByteS_l0 x0 hn d (i + 1) k _ (by omega) (by simpa using h2) (by omega)]
    have hi : i < x0.length := by omega
    rw [Int.toNat_natCast, rd_some hi, List.take_succ_eq_append_getElem (by rw [List.length_set]; omega), List.getElem_set_self, List.take_set_of_le (Nat.le_refl i), List.append_assoc, List.drop_eq_getElem_cons hi]
    rfl
theorem toByteS_f (l : List Int) (k : Nat) (hn : l.length ≤ 1048576) (hk : l.length < k) : laws_toByteS.f k l = some l := by
  unfold laws_toByteS.f
  rw [if_pos (by omega), if_pos (by omega)]
  have h := toByteS_l0 l (by omega) l.length 0 k (List.replicate ((l.length : Int)).toNat 0) (by omega) (by simp) hk
  rw [List.take_zero, List.drop_zero, List.nil_append] at h
  exact h

theorem eqByteS_l0 (x0 x1 : List Int) (hn : x0.length < 9223372036854775807) (hl : x0.length = x1.length) : ∀ (d i k : Nat), i + d = x0.length → d < k → laws_eqByteS.l0 k x0 x1 (i : Int) = some (decide (x0.drop i = x1.drop i))
  | 0, i, k, h1, h3 => by
    obtain ⟨k, rfl⟩ := sucK h3
    simp only [laws_eqByteS.l0]
    rw [if_neg (by omega), List.drop_eq_nil_of_le (by omega), List.drop_eq_nil_of_le (by omega)]
    simp
  | d + 1, i, k, h1, h3 => by
    obtain ⟨k, rfl⟩ := sucK h3
    simp only [laws_eqByteS.l0]
    have hi : i < x0.length := by omega
    have hi1 : i < x1.length := by omega
    have hd0 := List.drop_eq_getElem_cons hi
    have hd1 := List.drop_eq_getElem_cons hi1
    rw [if_pos (by omega), if_pos (by omega), if_pos (by omega), w64n (by omega), eqByteS_l0 x0 x1 hn hl d (i + 1) k (by omega) (by omega), rd_some hi, rd_some hi1]
    by_cases h : x0[i] = x1[i]
    · rw [if_pos h]
      simp only [hd0, hd1, List.cons.injEq, h, true_and]
    · rw [if_neg h]
      simp only [hd0, hd1, List.cons.injEq, h, false_and, decide_false]
theorem eqByteS_f (a b : List Int) (k : Nat) (hn : a.length ≤ 1048576) (hk : a.length < k) : laws_eqByteS.f k a b = some (decide (a = b)) := by
  unfold laws_eqByteS.f
  by_cases h : a.length = b.length
  · rw [if_pos (by omega)]
    exact eqByteS_l0 a b (by omega) h a.length 0 k (by omega) hk
  · rw [if_neg (by omega)]
    have : a ≠ b := fun e => h (by rw [e])
    simp [this]

/-- what mark leaves -/
theorem markByteS_l0 (hn : ∀ x : Int, True) : ∀ (d i k : Nat) (x0 : List Int) (m : Nat), i + d = x0.length → d < k → m + d < 9223372036854775807 → i + d < 9223372036854775807 → laws_markByteS.l0 k x0 (m : Int) (i : Int) = some (((m + d : Nat) : Int), x0.take i ++ (List.range' m d).map (fun (q : Nat) => (q : Int) % 256))
  | 0, i, k, x0, m, h1, h3, h4, h5 => by
    obtain ⟨k, rfl⟩ := sucK h3
    simp only [laws_markByteS.l0]
    rw [if_neg (by omega), List.take_of_length_le (by omega)]
    simp
  | d + 1, i, k, x0, m, h1, h3, h4, h5 => by
    obtain ⟨k, rfl⟩ := sucK h3
    simp only [laws_markByteS.l0]
    rw [if_pos (by omega), if_pos (by omega), w64n (by omega), w64n (by omega), markByteS_l0 hn d (i + 1) k _ (m + 1) (by simpa using (by omega)) (by omega) (by omega) (by omega)]
    rw [show ((i : Int)).toNat = i from by omega]
    congr 2
    · omega
    · rw [List.range'_succ, List.map_cons, List.take_succ_eq_append_getElem (by simpa using (by omega)), List.getElem_set_self, List.take_set_of_le (Nat.le_refl i), List.append_assoc]
      rfl
theorem markByteS_f (l : List Int) (m k : Nat) (hn : l.length ≤ 1048576) (hm : m ≤ 1099511627776) (hk : l.length < k) : laws_markByteS.f k l (m : Int) = some (((m + l.length : Nat) : Int), (List.range' m l.length).map (fun (q : Nat) => (q : Int) % 256)) := by
  unfold laws_markByteS.f
  have h := markByteS_l0 (fun _ => trivial) l.length 0 k l m (by omega) hk (by omega) (by omega)
  rw [List.take_zero, List.nil_append] at h
  exact h

theorem heldByteS_l0 (n m0 : Nat) (x0 : List Int) (hx : x0 = (List.range' m0 n).map (fun (q : Nat) => (q : Int) % 256)) : ∀ (d i k : Nat), i + d = n → d < k → m0 + n < 9223372036854775807 → laws_heldByteS.l0 k x0 ((m0 + i : Nat) : Int) (i : Int) = some ((m0 + n : Nat) : Int)
  | 0, i, k, h1, h3, h4 => by
    obtain ⟨k, rfl⟩ := sucK h3
    have hl : x0.length = n := by rw [hx]; simp
    simp only [laws_heldByteS.l0]
    rw [if_neg (by omega), show m0 + i = m0 + n by omega]
  | d + 1, i, k, h1, h3, h4 => by
    obtain ⟨k, rfl⟩ := sucK h3
    have hl : x0.length = n := by rw [hx]; simp
    have hi : i < x0.length := by omega
    have hv : rd x0 (i : Int) = (fun (q : Nat) => (q : Int) % 256) (m0 + i) := by
      rw [rd_some hi]
      simp only [hx, List.getElem_map, List.getElem_range', Nat.one_mul]
    simp only [laws_heldByteS.l0]
    rw [if_pos (by omega), if_pos (by omega), if_pos hv, w64n (by omega), w64n (by omega)]
    exact heldByteS_l0 n m0 x0 hx d (i + 1) k (by omega) (by omega) h4
theorem heldByteS_f (n m k : Nat) (hn : n ≤ 1048576) (hm : m ≤ 1099511627776) (hk : n < k) : laws_heldByteS.f k ((List.range' m n).map (fun (q : Nat) => (q : Int) % 256)) (m : Int) = some ((m + n : Nat) : Int) := by
  unfold laws_heldByteS.f
  exact heldByteS_l0 n m _ rfl n 0 k (by omega) hk (by omega)

theorem szOp_f (a b c u g : Int) (p q : ByteArray) (l : List Int) (hp : p.size ≤ maxLen) (hq : q.size ≤ maxLen) (hl : l.length ≤ maxLen) : ∃ t, laws_szOp.f a b c u g p q l 1048576 = some t ∧ (t < 0 ∨ l.length ≤ 1048576) := by
  simp only [maxLen] at hp hq hl
  unfold laws_szOp.f
  have e1 : wrap64 (1048576 - (p.size : Int)) = 1048576 - (p.size : Int) := by unfold wrap64; omega
  rw [e1]
  by_cases h1 : 1048576 - (p.size : Int) < 0
  · rw [if_pos h1]
    exact ⟨_, rfl, .inl (by decide)⟩
  · rw [if_neg h1]
    have e2 : wrap64 (1048576 - (p.size : Int) - (q.size : Int)) = 1048576 - (p.size : Int) - (q.size : Int) := by unfold wrap64; omega
    rw [e2]
    by_cases h2 : 1048576 - (p.size : Int) - (q.size : Int) < 0
    · rw [if_pos h2]
      exact ⟨_, rfl, .inl (by decide)⟩
    · rw [if_neg h2]
      unfold laws_szByteS.f
      have e3 : wrap64 (1048576 - (p.size : Int) - (q.size : Int) - (l.length : Int)) = 1048576 - (p.size : Int) - (q.size : Int) - (l.length : Int) := by unfold wrap64; omega
      rw [e3]
      by_cases h3 : 1048576 - (p.size : Int) - (q.size : Int) - (l.length : Int) < 0
      · rw [if_pos h3, Option.bind_some, if_pos (by decide)]
        exact ⟨_, rfl, .inl (by decide)⟩
      · rw [if_neg h3, Option.bind_some, if_neg h3]
        exact ⟨_, rfl, .inr (by omega)⟩
theorem toOp_f (a b c u g : Int) (p q : ByteArray) (l : List Int) (k : Nat) (hn : l.length ≤ 1048576) (hk : l.length < k) : laws_toOp.f k a b c u g p q l = some (a, b, c, u, g, p, q, l) := by
  unfold laws_toOp.f
  rw [toByteS_f l k hn hk]
  rfl
theorem eqOp_f (a b c u g : Int) (p q : ByteArray) (l : List Int) (k : Nat) (hn : l.length ≤ 1048576) (hk : l.length < k) : laws_eqOp.f k a b c u g p q l a b c u g p q l = some true := by
  unfold laws_eqOp.f
  rw [if_pos rfl, if_pos rfl, if_pos rfl, if_pos rfl, if_pos rfl, if_pos rfl, if_pos rfl, eqByteS_f l l k hn hk]
  simp
theorem markOp_f (a b c u g : Int) (p q : ByteArray) (l : List Int) (k : Nat) (hn : l.length ≤ 1048576) (hk : l.length < k) : ∃ y, laws_markOp.f k a b c u g p q l 1 = some (((1 + l.length : Nat) : Int), y) := by
  unfold laws_markOp.f
  have h := markByteS_f l 1 k hn (by decide) hk
  rw [show ((1 : Nat) : Int) = 1 from rfl] at h
  rw [h]
  exact ⟨_, rfl⟩
open Go.Proofs.YtknlpjoidjgciaaW.PrintOp in
/-- what both answer -/
def opR (n a b c u g : Int) (p q : ByteArray) (l : List Int) : List Int × Int := if (1 ≤ n ∧ n ≤ 1099511627776) ∧ opGood a u g p q l = true then (recBytes n (opBytes a b c u g p q l), 0) else ([], 7)
open Go.Proofs.YtknlpjoidjgciaaW.PrintOp in
theorem opR_len (n a b c u g : Int) (p q : ByteArray) (l : List Int) : (opR n a b c u g p q l).1.length ≤ 8192 := by
  unfold opR
  split
  · rename_i h
    have h1 := opGood_get h.2
    rw [recBytes_length, opBytes_length]
    omega
  · simp
theorem FnExactLogRecord : laws_FnExactLogRecord.Pure := by
  rintro n a b c u g p q l _ _ _ _ _ _ hp hq ⟨hl, hwf⟩
  have hby : ∀ x ∈ l, 0 ≤ x ∧ x ≤ 255 := fun x hx => Go.bounds_u8 (hwf x hx)
  refine ⟨2000000, ?_⟩
  unfold laws_FnExactLogRecord.f
  obtain ⟨t, ht, hs⟩ := szOp_f a b c u g p q l hp hq hl
  rw [ht, Option.bind_some]
  by_cases h0 : t < 0
  · rw [if_pos h0]
  · rw [if_neg h0]
    have hn : l.length ≤ 1048576 := by omega
    have hr := opR_len n a b c u g p q l
    have t1 := fun k (hk : l.length < k) => toOp_f a b c u g p q l k hn hk
    have e1 := fun k (hk : l.length < k) => eqOp_f a b c u g p q l k hn hk
    have e2 := fun k (hk : 8192 < k) => eqByteS_f (opR n a b c u g p q l).1 (opR n a b c u g p q l).1 k (by omega) (by omega)
    have m2 := fun k (hk : 8192 < k) => markByteS_f (opR n a b c u g p q l).1 1 k (by omega) (by omega) (by omega)
    have h2 := fun k (hk : 8192 < k) => heldByteS_f (opR n a b c u g p q l).1.length 1 k (by omega) (by omega) (by omega)
    have s1 : spec_LogRecord.f n a b c u g p q l = some (opR n a b c u g p q l) := by unfold spec_LogRecord.f; rw [if_pos hby]; rfl
    have i1 : impl_LogRecord.f n a b c u g p q l = some (opR n a b c u g p q l) := by unfold impl_LogRecord.f; rw [if_pos hby]; rfl
    obtain ⟨y, m1⟩ := markOp_f a b c u g p q l 1999999 hn (by omega)
    have c1 : ((1 : Nat) : Int) = 1 := rfl
    rw [c1] at m2 h2
    have n1 : ¬ (((1 + l.length : Nat) : Int) < 0) := by omega
    have n2 : ¬ (((1 + (opR n a b c u g p q l).1.length : Nat) : Int) < 0) := by omega
    simp (disch := omega) only [t1, s1, i1, e2, Option.bind_some, decide_true, if_true, bne_self_eq_false]
    rw [show (2000000 : Nat) = 1999999 + 1 from rfl]
    simp only [laws_FnExactLogRecord.j0, Bool.false_eq_true, if_false]
    simp (disch := omega) only [t1, e1, m1, e2, Option.bind_some, decide_true, if_true, if_neg n1, bne_self_eq_false]
    rw [show (1999999 : Nat) = 1999998 + 1 from rfl]
    simp only [laws_FnExactLogRecord.j1, Bool.false_eq_true, if_false]
    simp (disch := omega) only [t1, i1, m2, h2, e2, Option.bind_some, decide_true, if_true, if_neg n2, bne_self_eq_false]
    rw [show (1999998 : Nat) = 1999997 + 1 from rfl]
    simp only [laws_FnExactLogRecord.j2, Bool.false_eq_true, if_false]
    simp (disch := omega) only [h2, Option.bind_some, if_true, if_neg n2]

end Go.Proofs.Ytknlpjoidjgciaa.Pure
