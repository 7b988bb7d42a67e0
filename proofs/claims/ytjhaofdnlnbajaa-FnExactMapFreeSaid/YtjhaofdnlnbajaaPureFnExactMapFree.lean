/- The law of MapFree answers true at every argument; no condition. -/
import Derived.Test.YtjhaofdnlnbajaaPFnExactMapFreex13
import Derived.OpenShut
import Derived.Laws.BitsLemmas
namespace Go.Proofs.Ytjhaofdnlnbajaa.Pure
open Go.RowKit Go.Proofs.Ytjhaofdnlnbajaa.PFnExactMapFree Go.Proofs.YtjhaofdnlnbajaaW.PrintWords Go.Proofs.YtjhaofdnlnbajaaW.PrintLast
set_option linter.unusedVariables false

theorem w64 {x : Int} (h0 : -9223372036854775808 ≤ x) (h1 : x ≤ 9223372036854775807) : wrap64 x = x := by unfold wrap64; omega
theorem w64n {n : Nat} (h : n < 9223372036854775807) : wrap64 ((n : Int) + 1) = ((n + 1 : Nat) : Int) := by unfold wrap64; omega
theorem sucK {n k : Nat} (h : n < k) : ∃ m, k = m + 1 := ⟨k - 1, by omega⟩
theorem rdN (xs : List Int) (i : Nat) : rd xs (i : Int) = xs.getD i 0 := by simp [rd]
theorem rd_some {xs : List Int} {i : Nat} (h : i < xs.length) : rd xs (i : Int) = xs[i] := by rw [rdN, List.getD_eq_getElem?_getD, List.getElem?_eq_getElem h]; rfl

theorem toIntS_l0 (x0 : List Int) (hn : x0.length < 9223372036854775807) : ∀ (d i k : Nat) (x3 : List Int), i + d = x0.length → x3.length = x0.length → d < k → laws_toIntS.l0 k x0 x3 (i : Int) = some (x3.take i ++ x0.drop i)
  | 0, i, k, x3, h1, h2, h3 => by
    obtain ⟨k, rfl⟩ := sucK h3
    simp only [laws_toIntS.l0]
    rw [if_neg (by omega), List.take_of_length_le (by omega), List.drop_eq_nil_of_le (by omega), List.append_nil]
  | d + 1, i, k, x3, h1, h2, h3 => by
    obtain ⟨k, rfl⟩ := sucK h3
    simp only [laws_toIntS.l0]
    rw [if_pos (by omega), if_pos (by omega), if_pos (by omega), w64n (by omega), toIntS_l0 x0 hn d (i + 1) k _ (by omega) (by simpa using h2) (by omega)]
    have hi : i < x0.length := by omega
    rw [Int.toNat_natCast, rd_some hi, List.take_succ_eq_append_getElem (by rw [List.length_set]; omega), List.getElem_set_self, List.take_set_of_le (Nat.le_refl i), List.append_assoc, List.drop_eq_getElem_cons hi]
    rfl
theorem toIntS_f (l : List Int) (k : Nat) (hn : l.length ≤ 1048576) (hk : l.length < k) : laws_toIntS.f k l = some l := by
  unfold laws_toIntS.f
  rw [if_pos (by omega), if_pos (by omega)]
  have h := toIntS_l0 l (by omega) l.length 0 k (List.replicate ((l.length : Int)).toNat 0) (by omega) (by simp) hk
  rw [List.take_zero, List.drop_zero, List.nil_append] at h
  exact h

theorem eqIntS_l0 (x0 x1 : List Int) (hn : x0.length < 9223372036854775807) (hl : x0.length = x1.length) : ∀ (d i k : Nat), i + d = x0.length → d < k → laws_eqIntS.l0 k x0 x1 (i : Int) = some (decide (x0.drop i = x1.drop i))
  | 0, i, k, h1, h3 => by
    obtain ⟨k, rfl⟩ := sucK h3
    simp only [laws_eqIntS.l0]
    rw [if_neg (by omega), List.drop_eq_nil_of_le (by omega), List.drop_eq_nil_of_le (by omega)]
    simp
  | d + 1, i, k, h1, h3 => by
    obtain ⟨k, rfl⟩ := sucK h3
    simp only [laws_eqIntS.l0]
    have hi : i < x0.length := by omega
    have hi1 : i < x1.length := by omega
    have hd0 := List.drop_eq_getElem_cons hi
    have hd1 := List.drop_eq_getElem_cons hi1
    rw [if_pos (by omega), if_pos (by omega), if_pos (by omega), w64n (by omega), eqIntS_l0 x0 x1 hn hl d (i + 1) k (by omega) (by omega), rd_some hi, rd_some hi1]
    by_cases h : x0[i] = x1[i]
    · rw [if_pos h]
      simp only [hd0, hd1, List.cons.injEq, h, true_and]
    · rw [if_neg h]
      simp only [hd0, hd1, List.cons.injEq, h, false_and, decide_false]
theorem eqIntS_f (a b : List Int) (k : Nat) (hn : a.length ≤ 1048576) (hk : a.length < k) : laws_eqIntS.f k a b = some (decide (a = b)) := by
  unfold laws_eqIntS.f
  by_cases h : a.length = b.length
  · rw [if_pos (by omega)]
    exact eqIntS_l0 a b (by omega) h a.length 0 k (by omega) hk
  · rw [if_neg (by omega)]
    have : a ≠ b := fun e => h (by rw [e])
    simp [this]

/-- what mark leaves -/
theorem markIntS_l0 (hn : ∀ x : Int, True) : ∀ (d i k : Nat) (x0 : List Int) (m : Nat), i + d = x0.length → d < k → m + d < 9223372036854775807 → i + d < 9223372036854775807 → laws_markIntS.l0 k x0 (m : Int) (i : Int) = some (((m + d : Nat) : Int), x0.take i ++ (List.range' m d).map (fun (q : Nat) => (q : Int)))
  | 0, i, k, x0, m, h1, h3, h4, h5 => by
    obtain ⟨k, rfl⟩ := sucK h3
    simp only [laws_markIntS.l0]
    rw [if_neg (by omega), List.take_of_length_le (by omega)]
    simp
  | d + 1, i, k, x0, m, h1, h3, h4, h5 => by
    obtain ⟨k, rfl⟩ := sucK h3
    simp only [laws_markIntS.l0]
    rw [if_pos (by omega), if_pos (by omega), w64n (by omega), w64n (by omega), markIntS_l0 hn d (i + 1) k _ (m + 1) (by simpa using (by omega)) (by omega) (by omega) (by omega)]
    rw [show ((i : Int)).toNat = i from by omega]
    congr 2
    · omega
    · rw [List.range'_succ, List.map_cons, List.take_succ_eq_append_getElem (by simpa using (by omega)), List.getElem_set_self, List.take_set_of_le (Nat.le_refl i), List.append_assoc]
      rfl
theorem markIntS_f (l : List Int) (m k : Nat) (hn : l.length ≤ 1048576) (hm : m ≤ 1099511627776) (hk : l.length < k) : laws_markIntS.f k l (m : Int) = some (((m + l.length : Nat) : Int), (List.range' m l.length).map (fun (q : Nat) => (q : Int))) := by
  unfold laws_markIntS.f
  have h := markIntS_l0 (fun _ => trivial) l.length 0 k l m (by omega) hk (by omega) (by omega)
  rw [List.take_zero, List.nil_append] at h
  exact h

theorem heldIntS_l0 (n m0 : Nat) (x0 : List Int) (hx : x0 = (List.range' m0 n).map (fun (q : Nat) => (q : Int))) : ∀ (d i k : Nat), i + d = n → d < k → m0 + n < 9223372036854775807 → laws_heldIntS.l0 k x0 ((m0 + i : Nat) : Int) (i : Int) = some ((m0 + n : Nat) : Int)
  | 0, i, k, h1, h3, h4 => by
    obtain ⟨k, rfl⟩ := sucK h3
    have hl : x0.length = n := by rw [hx]; simp
    simp only [laws_heldIntS.l0]
    rw [if_neg (by omega), show m0 + i = m0 + n by omega]
  | d + 1, i, k, h1, h3, h4 => by
    obtain ⟨k, rfl⟩ := sucK h3
    have hl : x0.length = n := by rw [hx]; simp
    have hi : i < x0.length := by omega
    have hv : rd x0 (i : Int) = (fun (q : Nat) => (q : Int)) (m0 + i) := by
      rw [rd_some hi]
      simp only [hx, List.getElem_map, List.getElem_range', Nat.one_mul]
    simp only [laws_heldIntS.l0]
    rw [if_pos (by omega), if_pos (by omega), if_pos hv, w64n (by omega), w64n (by omega)]
    exact heldIntS_l0 n m0 x0 hx d (i + 1) k (by omega) (by omega) h4
theorem heldIntS_f (n m k : Nat) (hn : n ≤ 1048576) (hm : m ≤ 1099511627776) (hk : n < k) : laws_heldIntS.f k ((List.range' m n).map (fun (q : Nat) => (q : Int))) (m : Int) = some ((m + n : Nat) : Int) := by
  unfold laws_heldIntS.f
  exact heldIntS_l0 n m _ rfl n 0 k (by omega) hk (by omega)

theorem bad_cons (x : Int) (xs : List Int) : impl_mapRight.bad (x :: xs) ↔ (¬ (0 ≤ x ∧ x ≤ 4294967295)) ∨ impl_mapRight.bad xs := by
  unfold impl_mapRight.bad
  simp only [List.mem_cons, exists_eq_or_imp]
theorem right_l0 (l : List Int) (hn : l.length < 9223372036854775807) : ∀ (d i k : Nat), i + d = l.length → d < k → spec_L04Right.l0 k l (l.length : Int) (i : Int) = some (decide (¬ impl_mapRight.bad (l.drop i)))
  | 0, i, k, h1, h3 => by
    obtain ⟨k, rfl⟩ := sucK h3
    simp only [spec_L04Right.l0]
    rw [if_neg (by omega), List.drop_eq_nil_of_le (by omega)]
    simp [impl_mapRight.bad]
  | d + 1, i, k, h1, h3 => by
    obtain ⟨k, rfl⟩ := sucK h3
    simp only [spec_L04Right.l0]
    have hi : i < l.length := by omega
    rw [if_pos (by omega), if_pos (by omega), if_pos (by omega), w64n (by omega), right_l0 l hn d (i + 1) k (by omega) (by omega), rd_some hi, List.drop_eq_getElem_cons hi]
    generalize l[i] = x
    by_cases h1 : x < 0
    · rw [if_pos h1, decide_eq_false (fun h => h ((bad_cons _ _).2 (Or.inl (by omega))))]
    · rw [if_neg h1]
      by_cases h2 : x > 4294967295
      · rw [if_pos h2, decide_eq_false (fun h => h ((bad_cons _ _).2 (Or.inl (by omega))))]
      · rw [if_neg h2]
        congr 1
        apply decide_eq_decide.2
        rw [bad_cons]
        constructor
        · rintro h (h' | h')
          · omega
          · exact h h'
        · exact fun h h' => h (Or.inr h')
theorem right_f (l : List Int) (k : Nat) (hk : 3000 < k) : spec_L04Right.f k l = impl_mapRight.f l := by
  obtain ⟨k, rfl⟩ := sucK hk
  unfold spec_L04Right.f impl_mapRight.f
  by_cases c1 : (l.length : Int) < 64
  · rw [if_pos c1, spec_L04Right.j0, if_pos rfl, decide_eq_false (fun h => by omega)]
  rw [if_neg c1]
  by_cases c2 : (l.length : Int) > 2048
  · rw [if_pos c2, spec_L04Right.j0, if_pos rfl, decide_eq_false (fun h => by omega)]
  rw [if_neg c2, if_pos (by omega)]
  by_cases c3 : rd l 0 = 1
  · rw [if_pos c3, if_pos (by omega), spec_L04Right.j0]
    by_cases c4 : rd l 1 = 1
    · have := right_l0 l (by omega) l.length 0 k (by omega) (by omega)
      rw [List.drop_zero] at this
      rw [if_neg (by simp [c4]), show (0 : Int) = ((0 : Nat) : Int) from rfl, this]
      congr 1
      apply decide_eq_decide.2
      exact ⟨fun h => ⟨by omega, by omega, h, c3, c4⟩, fun h => h.2.2.1⟩
    · rw [if_pos (by simp [c4]), decide_eq_false (fun h => c4 h.2.2.2.2)]
  · rw [if_neg c3, spec_L04Right.j0, if_pos rfl, decide_eq_false (fun h => c3 h.2.2.2.1)]
theorem within_f (a b c : Int) : impl_within.f a b c = some (decide (b ≤ a ∧ a ≤ c)) := impl_mapRight.hW a b c
theorem right_words {l : List Int} (h : impl_mapRight.f l = some true) : 64 ≤ l.length ∧ l.length ≤ 2048 ∧ ∀ x ∈ l, 0 ≤ x ∧ x ≤ 4294967295 := by
  have h := of_decide_eq_true (Option.some.inj h)
  refine ⟨h.1, h.2.1, fun x hx => ?_⟩
  apply Decidable.byContradiction
  intro hc
  exact h.2.2.1 ⟨x, hx, hc⟩

theorem order_l1 (c : Nat) (hc : c ≤ 2048) : ∀ (d i k : Nat) (x5 : List Int), i + d = c → d < k → x5.length + d ≤ 1000000 → spec_l04Order.l1 k (c : Int) x5 (i : Int) = some (x5 ++ (List.range' i d).map (fun n : Nat => (n : Int)))
  | 0, i, k, x5, h1, h2, h3 => by
    obtain ⟨k, rfl⟩ := sucK h2
    simp only [spec_l04Order.l1]
    rw [if_neg (by omega)]
    simp
  | d + 1, i, k, x5, h1, h2, h3 => by
    obtain ⟨k, rfl⟩ := sucK h2
    simp only [spec_l04Order.l1]
    rw [if_pos (by omega), if_pos (by omega), w64n (by omega), order_l1 c hc d (i + 1) k _ (by omega) (by omega) (by rw [List.length_append]; simp; omega)]
    simp [List.range'_succ]
theorem order_l0 (m c : Nat) (hm : m ≤ 2048) : ∀ (d i K : Nat) (x5 : List Int), i + d = m → x5.length + d ≤ 1000000 → spec_l04Order.l0 (K + d + 1) (m : Int) (c : Int) x5 (i : Int) = spec_l04Order.l1 K (c : Int) (x5 ++ (List.range' i d).map (fun n : Nat => (n : Int))) 2
  | 0, i, K, x5, h1, h3 => by
    simp only [spec_l04Order.l0]
    rw [if_neg (by omega)]
    simp
  | d + 1, i, K, x5, h1, h3 => by
    rw [spec_l04Order.l0]
    rw [if_pos (by omega), if_pos (by omega), w64n (by omega), show K + (d + 1) = K + d + 1 from rfl, order_l0 m c hm d (i + 1) K _ (by omega) (by rw [List.length_append]; simp; omega)]
    simp [List.range'_succ]
theorem order_f (m c k : Nat) (hm : m ≤ 2048) (hc : 2 ≤ c) (hcm : c < m) (hk : 10000 < k) : spec_l04Order.f k (m : Int) (c : Int) = some ((mf_order c m).map (fun n : Nat => (n : Int))) := by
  unfold spec_l04Order.f
  obtain ⟨K, rfl⟩ : ∃ K, k = K + (m - c) + 1 := ⟨k - (m - c) - 1, by omega⟩
  rw [order_l0 m c hm (m - c) c K [] (by omega) (by simp; omega), show (2 : Int) = ((2 : Nat) : Int) from rfl, order_l1 c (by omega) (c - 2) 2 K _ (by omega) (by omega) (by simp; omega)]
  simp [mf_order]
theorem frees_l0 (l : List Int) (hl : l.length ≤ 2048) (L : List Nat) (hL : ∀ b ∈ L, b < l.length) (hn : L.length ≤ 100000) : ∀ (d i k : Nat) (x5 : List Int), i + d = L.length → d < k → x5.length + d ≤ 1000000 → spec_l04Frees.l0 k l x5 (L.map (fun n : Nat => (n : Int))) (L.length : Int) (i : Int) = some (x5 ++ mf_fr l (L.drop i))
  | 0, i, k, x5, h1, h2, h3 => by
    obtain ⟨k, rfl⟩ := sucK h2
    simp only [spec_l04Frees.l0]
    rw [if_neg (by omega), List.drop_eq_nil_of_le (by omega)]
    simp [mf_fr]
  | d + 1, i, k, x5, h1, h2, h3 => by
    obtain ⟨k, rfl⟩ := sucK h2
    have hi : i < L.length := by omega
    have hb := hL L[i] (List.getElem_mem hi)
    have hr : rd (L.map (fun n : Nat => (n : Int))) (i : Int) = ((L[i] : Nat) : Int) := by rw [rd_some (by simpa using hi)]; simp
    simp only [spec_l04Frees.l0]
    rw [if_pos (by omega), if_pos (by omega), if_pos (by simp; omega), hr, if_pos (by omega), if_pos (by omega), w64n (by omega), List.drop_eq_getElem_cons hi]
    by_cases h0 : rd l ((L[i] : Nat) : Int) = 0
    · rw [if_pos h0, if_pos (by omega), frees_l0 l hl L hL hn d (i + 1) k _ (by omega) (by omega) (by rw [List.length_append]; simp; omega)]
      generalize L.drop (i + 1) = T_
      generalize L[i] = b_ at h0
      simp [mf_fr, h0]
    · rw [if_neg h0, frees_l0 l hl L hL hn d (i + 1) k _ (by omega) (by omega) (by omega)]
      generalize L.drop (i + 1) = T_
      generalize L[i] = b_ at h0
      simp [mf_fr, h0]
theorem frees_f (l : List Int) (c k : Nat) (hl : l.length ≤ 2048) (hc : 2 ≤ c) (hcm : c < l.length) (hk : 10000 < k) : spec_l04Frees.f k l (c : Int) = some (mf_fr l (mf_order c l.length)) := by
  unfold spec_l04Frees.f
  rw [order_f l.length c k hl hc hcm hk, Option.bind_some]
  have hlen : (mf_order c l.length).length ≤ 5000 := by unfold mf_order; simp; omega
  have := frees_l0 l hl (mf_order c l.length) (fun b hb => by
    unfold mf_order at hb
    rw [List.mem_append, List.mem_range'_1, List.mem_range'_1] at hb
    omega) (by omega) (mf_order c l.length).length 0 k [] (by omega) (by omega) (by simp; omega)
  rw [List.length_map]
  simpa using this
theorem right_cases (l : List Int) : impl_mapRight.f l = some true ∨ impl_mapRight.f l = some false := by
  unfold impl_mapRight.f
  by_cases h : 64 ≤ l.length ∧ l.length ≤ 2048 ∧ ¬ impl_mapRight.bad l ∧ rd l 0 = 1 ∧ rd l 1 = 1
  · exact Or.inl (by rw [decide_eq_true h])
  · exact Or.inr (by rw [decide_eq_false h])
open Classical in
/-- what MapFree answers -/
noncomputable def freeR (l : List Int) (a1 a2 : Int) : List Int × Int × Int := if impl_mapRight.f l = some true ∧ 2 ≤ a1 ∧ a1 < (l.length : Int) ∧ 0 ≤ a2 then mf_res l a1 a2 else ([], 0, 7)
theorem impl_f (l : List Int) (a1 a2 : Int) : impl_MapFree.f l a1 a2 = some (freeR l a1 a2) := by
  unfold impl_MapFree.f freeR
  rcases right_cases l with h | h
  · have hw := right_words h
    rw [h, Option.bind_some, w64 (by omega) (by omega)]
    by_cases c : 2 ≤ a1 ∧ a1 < (l.length : Int) ∧ 0 ≤ a2
    · rw [if_pos ⟨rfl, c.1, by omega, c.2.2⟩, if_pos ⟨rfl, c.1, by omega, c.2.2⟩]
    · rw [if_neg (fun h => c ⟨h.2.1, by omega, h.2.2.2⟩), if_neg (fun h => c h.2)]
  · rw [h, Option.bind_some, if_neg (fun h => Bool.noConfusion h.1), if_neg (fun h => Bool.noConfusion (Option.some.inj h.1))]
theorem behind_f (a b : Int) : spec_l04Behind.f a b = some (mf_behind b a) := by
  unfold spec_l04Behind.f mf_behind
  by_cases h : b = wrap64 (a - 1)
  · rw [if_pos h, if_pos h]
  · rw [if_neg h, if_neg h]
theorem rd_take (F : List Int) (n j : Nat) (h : j < n) : rd (F.take n) (j : Int) = rd F (j : Int) := by
  rw [rdN, rdN, List.getD_eq_getElem?_getD, List.getD_eq_getElem?_getD, List.getElem?_take, if_pos h]
theorem fr_len (l : List Int) (c : Nat) (hc : 2 ≤ c) (hcm : c < l.length) : (mf_fr l (mf_order c l.length)).length ≤ l.length := by
  refine Nat.le_trans (mf_fr_le _ _) ?_
  unfold mf_order
  simp
  omega
theorem spec_f (l : List Int) (a1 a2 : Int) (k : Nat) (hk : 1100000 < k) : spec_MapFree.f k l a1 a2 = some (freeR l a1 a2) := by
  unfold spec_MapFree.f freeR
  rw [right_f l k (by omega)]
  obtain ⟨k, rfl⟩ := sucK hk
  rcases right_cases l with h | h
  · have hw := right_words h
    rw [h, Option.bind_some, if_pos rfl]
    by_cases c1 : a1 < 2
    · rw [if_pos c1, spec_MapFree.j0, if_pos rfl, if_neg (fun h => by omega)]
    rw [if_neg c1]
    by_cases c2 : a1 ≥ (l.length : Int)
    · rw [if_pos c2, spec_MapFree.j0, if_pos rfl, if_neg (fun h => by omega)]
    rw [if_neg c2, spec_MapFree.j0]
    by_cases c3 : a2 < 0
    · rw [decide_eq_true c3, if_pos rfl, if_neg (fun h => by omega)]
    rw [decide_eq_false c3, if_neg (by decide), if_pos ⟨rfl, by omega, by omega, by omega⟩]
    obtain ⟨c, rfl⟩ := Int.eq_ofNat_of_zero_le (show 0 ≤ a1 by omega)
    obtain ⟨n, rfl⟩ := Int.eq_ofNat_of_zero_le (show 0 ≤ a2 by omega)
    rw [frees_f l c k hw.2.1 (by omega) (by omega) (by omega), Option.bind_some]
    have hF := fr_len l c (by omega) (by omega)
    unfold mf_res mf_out
    rw [Int.toNat_natCast, Int.toNat_natCast]
    generalize mf_fr l (mf_order c l.length) = F at hF
    by_cases d1 : (n : Int) > (F.length : Int)
    · rw [if_pos d1, if_pos (by rw [List.length_take]; omega)]
    rw [if_neg d1]
    have d3 : ¬ (((F.take n).length : Nat) : Int) < (n : Int) := by rw [List.length_take]; omega
    rw [if_neg d3]
    by_cases d2 : (n : Int) > 0
    · have hw1 : wrap64 ((n : Int) - 1) = ((n - 1 : Nat) : Int) := by rw [w64 (by omega) (by omega)]; omega
      rw [if_pos d2, hw1, if_pos (by omega), if_pos (by omega), behind_f, Option.bind_some, Option.bind_some, if_pos (by omega), if_pos (by omega), Option.bind_some, if_pos (by simp; omega), rd_take F n (n - 1) (by omega), if_pos (by omega)]
      simp
    · rw [if_neg d2, Option.bind_some, if_pos (by omega), if_pos (by omega), Option.bind_some, if_pos (by simp; omega)]
      simp
      omega
  · rw [h, Option.bind_some, if_neg (by decide), spec_MapFree.j0, if_pos rfl, if_neg (fun h => Bool.noConfusion (Option.some.inj h.1))]
theorem freeR_len (l : List Int) (a1 a2 : Int) : (freeR l a1 a2).1.length ≤ 2048 := by
  unfold freeR
  by_cases h : impl_mapRight.f l = some true ∧ 2 ≤ a1 ∧ a1 < (l.length : Int) ∧ 0 ≤ a2
  · rw [if_pos h]
    have hw := right_words h.1
    obtain ⟨c, rfl⟩ := Int.eq_ofNat_of_zero_le (show 0 ≤ a1 by omega)
    have hF := fr_len l c (by omega) (by omega)
    unfold mf_res mf_out
    rw [Int.toNat_natCast]
    split
    · simp
    · show (List.take _ _).length ≤ 2048
      rw [List.length_take]
      omega
  · rw [if_neg h]
    simp
theorem FnExactMapFree : laws_FnExactMapFree.Pure := by
  intro l a1 a2 _ _ _ _ _
  refine ⟨2000000, ?_⟩
  unfold laws_FnExactMapFree.f
  by_cases hl : (l.length : Int) > 1048576
  · rw [if_pos hl]
  rw [if_neg hl]
  have hn : l.length ≤ 1048576 := by omega
  have hr := freeR_len l a1 a2
  have t1 := fun k (hk : 1100000 < k) => toIntS_f l k hn (by omega)
  have e1 := fun k (hk : 1100000 < k) => eqIntS_f l l k hn (by omega)
  have e3 := fun k (hk : 1100000 < k) => eqIntS_f (freeR l a1 a2).1 (freeR l a1 a2).1 k (by omega) (by omega)
  have m1 := fun k (hk : 1100000 < k) => markIntS_f l 1 k hn (by omega) (by omega)
  have m3 := fun k (hk : 1100000 < k) => markIntS_f (freeR l a1 a2).1 1 k (by omega) (by omega) (by omega)
  have h3 := fun k (hk : 1100000 < k) => heldIntS_f (freeR l a1 a2).1.length 1 k (by omega) (by omega) (by omega)
  have s1 := fun k (hk : 1100000 < k) => spec_f l a1 a2 k hk
  have i1 := impl_f l a1 a2
  have c1 : ((1 : Nat) : Int) = 1 := rfl
  rw [c1] at m1 m3 h3
  have n1 : ¬ (((1 + l.length : Nat) : Int) < 0) := by omega
  have n2 : ¬ (((1 + (freeR l a1 a2).1.length : Nat) : Int) < 0) := by omega
  simp (disch := omega) only [t1, s1, i1, e3, Option.bind_some, decide_true, if_true, bne_self_eq_false]
  rw [show (2000000 : Nat) = 1999999 + 1 from rfl]
  simp only [laws_FnExactMapFree.j0, Bool.false_eq_true, if_false]
  simp (disch := omega) only [t1, e1, m1, e3, Option.bind_some, decide_true, if_true, if_neg n1, bne_self_eq_false]
  rw [show (1999999 : Nat) = 1999998 + 1 from rfl]
  simp only [laws_FnExactMapFree.j1, Bool.false_eq_true, if_false]
  simp (disch := omega) only [t1, i1, m3, h3, e3, Option.bind_some, decide_true, if_true, if_neg n2, bne_self_eq_false]
  rw [show (1999998 : Nat) = 1999997 + 1 from rfl]
  simp only [laws_FnExactMapFree.j2, Bool.false_eq_true, if_false]
  simp (disch := omega) only [h3, Option.bind_some, if_true, if_neg n2]

end Go.Proofs.Ytjhaofdnlnbajaa.Pure
