/- The law of MapPlane answers true at every argument; no condition. -/
import Derived.Test.YtjhaofdnlnbajaaPFnExactMapPlanex4
import Derived.OpenShut
import Derived.Laws.BitsLemmas
import Derived.OpenShut
import Derived.Laws.BitsLemmas
import Derived.OpenShut
import Derived.Laws.BitsLemmas
import Derived.OpenShut
import Derived.Laws.BitsLemmas
import Derived.OpenShut
import Derived.Laws.BitsLemmas
import Derived.OpenShut
import Derived.Laws.BitsLemmas
namespace Go.Proofs.Ytjhaofdnlnbajaa.Pure
open Go.RowKit Go.Proofs.Ytjhaofdnlnbajaa.PFnExactMapPlane Go.Proofs.YtjhaofdnlnbajaaW.PrintWords Go.Proofs.YtjhaofdnlnbajaaW.PrintLast
set_option linter.unusedVariables false
set_option linter.unusedVariables false
set_option linter.unusedVariables false
set_option linter.unusedVariables false
set_option linter.unusedVariables false
set_option linter.unusedVariables false

theorem w64 {x : Int} (h0 : -9223372036854775808 ≤ x) (h1 : x ≤ 9223372036854775807) : wrap64 x = x := by unfold wrap64; omega
theorem w64n {n : Nat} (h : n < 9223372036854775807) : wrap64 ((n : Int) + 1) = ((n + 1 : Nat) : Int) := by unfold wrap64; omega
theorem sucK {n k : Nat} (h : n < k) : ∃ m, k = m + 1 := ⟨k - 1, by omega⟩
theorem rdN (xs : List Int) (i : Nat) : rd xs (i : Int) = xs.getD i 0 := by simp [rd]
theorem rd_some {xs : List Int} {i : Nat} (h : i < xs.length) : rd xs (i : Int) = xs[i] := by rw [rdN, List.getD_eq_getElem?_getD, List.getElem?_eq_getElem h]; rfl

theorem toIntS_l0 (x0 : List Int) (hn : x0.length < 9223372036854775807) : ∀ (d i k : Nat) (x3 : List Int), i + d = x0.length → x3.length = x0.length → d < k → laws_toIntS.l0 k x0 x3 (i : Int) = some (x3.take i ++ x0.drop i)
  | 0, i, k, x3, h1, h2, h3 => by
    obtain ⟨k, rfl⟩ := sucK h3
    simp only [laws_toIntS.l0]
    rw [if_neg (by omega), List.take_of_length_le (by omega), List.drop_eq_nil_of_le (by omega), List.append_nil]
  | d + 1, i, k, x3, h1, h2, h3 => by
    obtain ⟨k, rfl⟩ := sucK h3
    simp only [laws_toIntS.l0]
    rw [if_pos (by omega), if_pos (by omega), if_pos (by omega), w64n (by omega), toIntS_l0 x0 hn d (i + 1) k _ (by omega) (by simpa using h2) (by omega)]
    have hi : i < x0.length := by omega
    rw [Int.toNat_natCast, rd_some hi, List.take_succ_eq_append_getElem (by rw [List.length_set]; omega), List.getElem_set_self, List.take_set_of_le (Nat.le_refl i), List.append_assoc, List.drop_eq_getElem_cons hi]
    rfl
theorem toIntS_f (l : List Int) (k : Nat) (hn : l.length ≤ 1048576) (hk : l.length < k) : laws_toIntS.f k l = some l := by
  unfold laws_toIntS.f
  rw [if_pos (by omega), if_pos (by omega)]
  have h := toIntS_l0 l (by omega) l.length 0 k (List.replicate ((l.length : Int)).toNat 0) (by omega) (by simp) hk
  rw [List.take_zero, List.drop_zero, List.nil_append] at h
  exact h

theorem eqIntS_l0 (x0 x1 : List Int) (hn : x0.length < 9223372036854775807) (hl : x0.length = x1.length) : ∀ (d i k : Nat), i + d = x0.length → d < k → laws_eqIntS.l0 k x0 x1 (i : Int) = some (decide (x0.drop i = x1.drop i))
  | 0, i, k, h1, h3 => by
    obtain ⟨k, rfl⟩ := sucK h3
    simp only [laws_eqIntS.l0]
    rw [if_neg (by omega), List.drop_eq_nil_of_le (by omega), List.drop_eq_nil_of_le (by omega)]
    simp
  | d + 1, i, k, h1, h3 => by
    obtain ⟨k, rfl⟩ := sucK h3
    simp only [laws_eqIntS.l0]
    have hi : i < x0.length := by omega
    have hi1 : i < x1.length := by omega
    have hd0 := List.drop_eq_getElem_cons hi
    have hd1 := List.drop_eq_getElem_cons hi1
    rw [if_pos (by omega), if_pos (by omega), if_pos (by omega), w64n (by omega), eqIntS_l0 x0 x1 hn hl d (i + 1) k (by omega) (by omega), rd_some hi, rd_some hi1]
    by_cases h : x0[i] = x1[i]
    · rw [if_pos h]
      simp only [hd0, hd1, List.cons.injEq, h, true_and]
    · rw [if_neg h]
      simp only [hd0, hd1, List.cons.injEq, h, false_and, decide_false]
theorem eqIntS_f (a b : List Int) (k : Nat) (hn : a.length ≤ 1048576) (hk : a.length < k) : laws_eqIntS.f k a b = some (decide (a = b)) := by
  unfold laws_eqIntS.f
  by_cases h : a.length = b.length
  · rw [if_pos (by omega)]
    exact eqIntS_l0 a b (by omega) h a.length 0 k (by omega) hk
  · rw [if_neg (by omega)]
    have : a ≠ b := fun e => h (by rw [e])
    simp [this]

/-- what mark leaves -/
theorem markIntS_l0 (hn : ∀ x : Int, True) : ∀ (d i k : Nat) (x0 : List Int) (m : Nat), i + d = x0.length → d < k → m + d < 9223372036854775807 → i + d < 9223372036854775807 → laws_markIntS.l0 k x0 (m : Int) (i : Int) = some (((m + d : Nat) : Int), x0.take i ++ (List.range' m d).map (fun (q : Nat) => (q : Int)))
  | 0, i, k, x0, m, h1, h3, h4, h5 => by
    obtain ⟨k, rfl⟩ := sucK h3
    simp only [laws_markIntS.l0]
    rw [if_neg (by omega), List.take_of_length_le (by omega)]
    simp
  | d + 1, i, k, x0, m, h1, h3, h4, h5 => by
    obtain ⟨k, rfl⟩ := sucK h3
    simp only [laws_markIntS.l0]
    rw [if_pos (by omega), if_pos (by omega), w64n (by omega), w64n (by omega), markIntS_l0 hn d (i + 1) k _ (m + 1) (by simpa using (by omega)) (by omega) (by omega) (by omega)]
    rw [show ((i : Int)).toNat = i from by omega]
    congr 2
    · omega
    · rw [List.range'_succ, List.map_cons, List.take_succ_eq_append_getElem (by simpa using (by omega)), List.getElem_set_self, List.take_set_of_le (Nat.le_refl i), List.append_assoc]
      rfl
theorem markIntS_f (l : List Int) (m k : Nat) (hn : l.length ≤ 1048576) (hm : m ≤ 1099511627776) (hk : l.length < k) : laws_markIntS.f k l (m : Int) = some (((m + l.length : Nat) : Int), (List.range' m l.length).map (fun (q : Nat) => (q : Int))) := by
  unfold laws_markIntS.f
  have h := markIntS_l0 (fun _ => trivial) l.length 0 k l m (by omega) hk (by omega) (by omega)
  rw [List.take_zero, List.nil_append] at h
  exact h

theorem heldIntS_l0 (n m0 : Nat) (x0 : List Int) (hx : x0 = (List.range' m0 n).map (fun (q : Nat) => (q : Int))) : ∀ (d i k : Nat), i + d = n → d < k → m0 + n < 9223372036854775807 → laws_heldIntS.l0 k x0 ((m0 + i : Nat) : Int) (i : Int) = some ((m0 + n : Nat) : Int)
  | 0, i, k, h1, h3, h4 => by
    obtain ⟨k, rfl⟩ := sucK h3
    have hl : x0.length = n := by rw [hx]; simp
    simp only [laws_heldIntS.l0]
    rw [if_neg (by omega), show m0 + i = m0 + n by omega]
  | d + 1, i, k, h1, h3, h4 => by
    obtain ⟨k, rfl⟩ := sucK h3
    have hl : x0.length = n := by rw [hx]; simp
    have hi : i < x0.length := by omega
    have hv : rd x0 (i : Int) = (fun (q : Nat) => (q : Int)) (m0 + i) := by
      rw [rd_some hi]
      simp only [hx, List.getElem_map, List.getElem_range', Nat.one_mul]
    simp only [laws_heldIntS.l0]
    rw [if_pos (by omega), if_pos (by omega), if_pos hv, w64n (by omega), w64n (by omega)]
    exact heldIntS_l0 n m0 x0 hx d (i + 1) k (by omega) (by omega) h4
theorem heldIntS_f (n m k : Nat) (hn : n ≤ 1048576) (hm : m ≤ 1099511627776) (hk : n < k) : laws_heldIntS.f k ((List.range' m n).map (fun (q : Nat) => (q : Int))) (m : Int) = some ((m + n : Nat) : Int) := by
  unfold laws_heldIntS.f
  exact heldIntS_l0 n m _ rfl n 0 k (by omega) hk (by omega)

theorem bad_cons (x : Int) (xs : List Int) : impl_mapRight.bad (x :: xs) ↔ (¬ (0 ≤ x ∧ x ≤ 4294967295)) ∨ impl_mapRight.bad xs := by
  unfold impl_mapRight.bad
  simp only [List.mem_cons, exists_eq_or_imp]
theorem right_l0 (l : List Int) (hn : l.length < 9223372036854775807) : ∀ (d i k : Nat), i + d = l.length → d < k → spec_L04Right.l0 k l (l.length : Int) (i : Int) = some (decide (¬ impl_mapRight.bad (l.drop i)))
  | 0, i, k, h1, h3 => by
    obtain ⟨k, rfl⟩ := sucK h3
    simp only [spec_L04Right.l0]
    rw [if_neg (by omega), List.drop_eq_nil_of_le (by omega)]
    simp [impl_mapRight.bad]
  | d + 1, i, k, h1, h3 => by
    obtain ⟨k, rfl⟩ := sucK h3
    simp only [spec_L04Right.l0]
    have hi : i < l.length := by omega
    rw [if_pos (by omega), if_pos (by omega), if_pos (by omega), w64n (by omega), right_l0 l hn d (i + 1) k (by omega) (by omega), rd_some hi, List.drop_eq_getElem_cons hi]
    generalize l[i] = x
    by_cases h1 : x < 0
    · rw [if_pos h1, decide_eq_false (fun h => h ((bad_cons _ _).2 (Or.inl (by omega))))]
    · rw [if_neg h1]
      by_cases h2 : x > 4294967295
      · rw [if_pos h2, decide_eq_false (fun h => h ((bad_cons _ _).2 (Or.inl (by omega))))]
      · rw [if_neg h2]
        congr 1
        apply decide_eq_decide.2
        rw [bad_cons]
        constructor
        · rintro h (h' | h')
          · omega
          · exact h h'
        · exact fun h h' => h (Or.inr h')
theorem right_f (l : List Int) (k : Nat) (hk : 3000 < k) : spec_L04Right.f k l = impl_mapRight.f l := by
  obtain ⟨k, rfl⟩ := sucK hk
  unfold spec_L04Right.f impl_mapRight.f
  by_cases c1 : (l.length : Int) < 64
  · rw [if_pos c1, spec_L04Right.j0, if_pos rfl, decide_eq_false (fun h => by omega)]
  rw [if_neg c1]
  by_cases c2 : (l.length : Int) > 2048
  · rw [if_pos c2, spec_L04Right.j0, if_pos rfl, decide_eq_false (fun h => by omega)]
  rw [if_neg c2, if_pos (by omega)]
  by_cases c3 : rd l 0 = 1
  · rw [if_pos c3, if_pos (by omega), spec_L04Right.j0]
    by_cases c4 : rd l 1 = 1
    · have := right_l0 l (by omega) l.length 0 k (by omega) (by omega)
      rw [List.drop_zero] at this
      rw [if_neg (by simp [c4]), show (0 : Int) = ((0 : Nat) : Int) from rfl, this]
      congr 1
      apply decide_eq_decide.2
      exact ⟨fun h => ⟨by omega, by omega, h, c3, c4⟩, fun h => h.2.2.1⟩
    · rw [if_pos (by simp [c4]), decide_eq_false (fun h => c4 h.2.2.2.2)]
  · rw [if_neg c3, spec_L04Right.j0, if_pos rfl, decide_eq_false (fun h => c3 h.2.2.2.1)]
theorem within_f (a b c : Int) : impl_within.f a b c = some (decide (b ≤ a ∧ a ≤ c)) := impl_mapRight.hW a b c
theorem right_words {l : List Int} (h : impl_mapRight.f l = some true) : 64 ≤ l.length ∧ l.length ≤ 2048 ∧ ∀ x ∈ l, 0 ≤ x ∧ x ≤ 4294967295 := by
  have h := of_decide_eq_true (Option.some.inj h)
  refine ⟨h.1, h.2.1, fun x hx => ?_⟩
  apply Decidable.byContradiction
  intro hc
  exact h.2.2.1 ⟨x, hx, hc⟩

/-- w without bit p -/
def clr (w : Int) (p : Nat) : Int := w - (w / ((2 ^ p : Nat) : Int) % 2) * ((2 ^ p : Nat) : Int)
theorem pow31 {p : Nat} (hp : p ≤ 31) : 2 ^ p ≤ 2147483648 := by
  have := Nat.pow_le_pow_right (show 0 < 2 by omega) hp
  simpa using this
theorem shl_one (p : Nat) (hp : p ≤ 31) : shl .i64 1 (p : Int) = ((2 ^ p : Nat) : Int) := by
  unfold shl
  have h := pow31 hp
  rw [Int.toNat_natCast, Nat.min_eq_left (by simp [IntKind.bits]; omega), IntKind.wrap_i64, Int.one_mul]
  have e : ((2 : Int) ^ p) = ((2 ^ p : Nat) : Int) := by simp
  rw [e]
  generalize 2 ^ p = q at h ⊢
  omega
theorem split_bit (x p : Nat) : x = 2 ^ (p + 1) * (x / 2 ^ (p + 1)) + (x / 2 ^ p % 2 * 2 ^ p + x % 2 ^ p) := by
  have h1 := Nat.div_add_mod x (2 ^ p)
  have h2 := Nat.div_add_mod (x / 2 ^ p) 2
  rw [Nat.div_div_eq_div_mul, ← Nat.pow_succ] at h2
  have h3 : x = 2 ^ p * (2 * (x / 2 ^ (p + 1)) + x / 2 ^ p % 2) + x % 2 ^ p := by rw [h2]; omega
  have h4 : 2 ^ (p + 1) = 2 ^ p * 2 := Nat.pow_succ ..
  rw [Nat.mul_add, ← Nat.mul_assoc, ← h4, Nat.mul_comm (2 ^ p) (x / 2 ^ p % 2), Nat.add_assoc] at h3
  exact h3
theorem or_clr (x p : Nat) (h : x / 2 ^ p % 2 = 0) : x ||| 2 ^ p = x + 2 ^ p := by
  have e := split_bit x p
  rw [h, Nat.zero_mul, Nat.zero_add] at e
  have hc : x % 2 ^ p < 2 ^ p := Nat.mod_lt _ (Nat.two_pow_pos p)
  generalize x / 2 ^ (p + 1) = a at e
  generalize x % 2 ^ p = c at e hc
  have hs : 2 ^ (p + 1) = 2 ^ p * 2 := Nat.pow_succ ..
  have hc' : c < 2 ^ (p + 1) := by omega
  have hd : 2 ^ p + c < 2 ^ (p + 1) := by omega
  have e1 := Nat.two_pow_add_eq_or_of_lt hc' a
  have e2 := Nat.two_pow_add_eq_or_of_lt hc 1
  have e3 := Nat.two_pow_add_eq_or_of_lt hd a
  rw [Nat.mul_one] at e2
  subst e
  rw [e1, Nat.or_assoc, Nat.or_comm c, ← e2, ← e3, ← e1]
  omega
theorem ofInt_nat (x : Nat) : BitVec.ofInt 64 (x : Int) = BitVec.ofNat 64 x := by
  apply BitVec.eq_of_toNat_eq
  simp
theorem ofInt_wrap (n : Int) : BitVec.ofInt 64 (IntKind.i64.wrap n) = BitVec.ofInt 64 n := by
  apply BitVec.eq_of_toNat_eq
  rw [BitVec.toNat_ofInt, BitVec.toNat_ofInt, IntKind.wrap_i64]
  congr 1
  omega
theorem or_idem (x y : Int) : Go.bits .or .i64 (Go.bits .or .i64 x y) y = Go.bits .or .i64 x y := by
  have h : BitVec.ofInt 64 (Go.bits .or .i64 x y) = BitVec.ofInt 64 x ||| BitVec.ofInt 64 y := by
    show BitVec.ofInt 64 (IntKind.i64.wrap (((BitVec.ofInt 64 x ||| BitVec.ofInt 64 y).toNat : Nat) : Int)) = _
    rw [ofInt_wrap, ofInt_nat, BitVec.ofNat_toNat]
    simp
  show IntKind.i64.wrap (((BitVec.ofInt 64 (Go.bits .or .i64 x y) ||| BitVec.ofInt 64 y).toNat : Nat) : Int) = IntKind.i64.wrap (((BitVec.ofInt 64 x ||| BitVec.ofInt 64 y).toNat : Nat) : Int)
  rw [h, BitVec.or_assoc, BitVec.or_self]
theorem bits_or (x p : Nat) (hp : p ≤ 31) (hx : x ≤ 4294967295) (h : x / 2 ^ p % 2 = 0) : Go.bits .or .i64 (x : Int) ((2 ^ p : Nat) : Int) = ((x + 2 ^ p : Nat) : Int) := by
  have hw := pow31 hp
  show IntKind.i64.wrap (((BitVec.ofInt 64 (x : Int) ||| BitVec.ofInt 64 ((2 ^ p : Nat) : Int)).toNat : Nat) : Int) = _
  rw [ofInt_nat, ofInt_nat, BitVec.toNat_or, BitVec.toNat_ofNat, BitVec.toNat_ofNat, Nat.mod_eq_of_lt (by omega), Nat.mod_eq_of_lt (by omega), or_clr x p h, IntKind.wrap_i64]
  generalize 2 ^ p = q at hw ⊢
  omega
theorem bv_andnot (X M : BitVec 64) (h : X &&& M = 0#64) : (X ||| M) &&& ~~~M = X ∧ X &&& ~~~M = X := by
  have hb : ∀ i (hi : i < 64), (X.getLsbD i && M.getLsbD i) = false := fun i hi => by
    have := congrArg (fun v : BitVec 64 => v.getLsbD i) h
    simpa using this
  constructor
  · apply BitVec.eq_of_getLsbD_eq
    intro i hi
    have := hb i hi
    simp only [BitVec.getLsbD_and, BitVec.getLsbD_or, BitVec.getLsbD_not, decide_eq_true hi, Bool.true_and]
    revert this
    cases X.getLsbD i <;> cases M.getLsbD i <;> simp
  · apply BitVec.eq_of_getLsbD_eq
    intro i hi
    have := hb i hi
    simp only [BitVec.getLsbD_and, BitVec.getLsbD_not, decide_eq_true hi, Bool.true_and]
    revert this
    cases X.getLsbD i <;> cases M.getLsbD i <;> simp
theorem clr_nat (w p : Nat) : clr (w : Int) p = ((w - w / 2 ^ p % 2 * 2 ^ p : Nat) : Int) ∧ (w - w / 2 ^ p % 2 * 2 ^ p) / 2 ^ p % 2 = 0 ∧ w = (w - w / 2 ^ p % 2 * 2 ^ p) + w / 2 ^ p % 2 * 2 ^ p := by
  have e := split_bit w p
  have hc : w % 2 ^ p < 2 ^ p := Nat.mod_lt _ (Nat.two_pow_pos p)
  have hle : w / 2 ^ p % 2 * 2 ^ p ≤ w := by
    generalize w / 2 ^ p % 2 * 2 ^ p = z at e
    omega
  refine ⟨?_, ?_, by omega⟩
  · unfold clr
    have : ((w : Int) / ((2 ^ p : Nat) : Int) % 2) * ((2 ^ p : Nat) : Int) = ((w / 2 ^ p % 2 * 2 ^ p : Nat) : Int) := by simp
    rw [this]
    omega
  · have e2 : w - w / 2 ^ p % 2 * 2 ^ p = 2 ^ p * (2 * (w / 2 ^ (p + 1))) + w % 2 ^ p := by
      have hs : 2 ^ (p + 1) = 2 ^ p * 2 := Nat.pow_succ ..
      rw [← Nat.mul_assoc, ← hs]
      generalize w / 2 ^ p % 2 * 2 ^ p = z at e hle ⊢
      omega
    rw [e2, Nat.mul_add_div (Nat.two_pow_pos p), Nat.div_eq_of_lt hc]
    omega
theorem and_clr (x p : Nat) (h : x / 2 ^ p % 2 = 0) : x &&& 2 ^ p = 0 := by
  apply Nat.eq_of_testBit_eq
  intro i
  rw [Nat.testBit_and, Nat.testBit_two_pow, Nat.zero_testBit]
  by_cases hi : p = i
  · subst hi
    rw [Nat.testBit_eq_decide_div_mod_eq, h]
    simp
  · simp [hi]
theorem bits_andnot (w p : Nat) (hp : p ≤ 31) (hw : w ≤ 4294967295) : Go.bits .andNot .i64 (w : Int) ((2 ^ p : Nat) : Int) = clr (w : Int) p := by
  obtain ⟨h1, h2, h3⟩ := clr_nat w p
  have hq := pow31 hp
  rw [h1]
  generalize hx : w - w / 2 ^ p % 2 * 2 ^ p = x at h1 h2 h3
  have hxw : x ≤ w := by omega
  have hz : BitVec.ofNat 64 x &&& BitVec.ofNat 64 (2 ^ p) = 0#64 := by
    apply BitVec.eq_of_toNat_eq
    rw [BitVec.toNat_and, BitVec.toNat_ofNat, BitVec.toNat_ofNat, Nat.mod_eq_of_lt (by omega), Nat.mod_eq_of_lt (by omega), and_clr x p h2]
    rfl
  obtain ⟨k1, k2⟩ := bv_andnot _ _ hz
  show IntKind.i64.wrap (((BitVec.ofInt 64 (w : Int) &&& ~~~BitVec.ofInt 64 ((2 ^ p : Nat) : Int)).toNat : Nat) : Int) = _
  rw [ofInt_nat, ofInt_nat]
  have e : BitVec.ofNat 64 w &&& ~~~BitVec.ofNat 64 (2 ^ p) = BitVec.ofNat 64 x := by
    rcases (by omega : w / 2 ^ p % 2 = 0 ∨ w / 2 ^ p % 2 = 1) with hb | hb
    · rw [hb] at h3
      rw [show w = x by omega]
      exact k2
    · rw [hb, Nat.one_mul] at h3
      have : BitVec.ofNat 64 w = BitVec.ofNat 64 x ||| BitVec.ofNat 64 (2 ^ p) := by
        apply BitVec.eq_of_toNat_eq
        rw [BitVec.toNat_or, BitVec.toNat_ofNat, BitVec.toNat_ofNat, BitVec.toNat_ofNat, Nat.mod_eq_of_lt (by omega), Nat.mod_eq_of_lt (by omega), Nat.mod_eq_of_lt (by omega), or_clr x p h2]
        exact h3
      rw [this]
      exact k1
  rw [e, BitVec.toNat_ofNat, Nat.mod_eq_of_lt (by omega), IntKind.wrap_i64]
  omega
theorem bit_l0 (p : Nat) (hp : p ≤ 31) : ∀ (d i k : Nat) (x : Nat), i + d = p → d < k → x ≤ 4294967295 → spec_l04Bit.l0 k (x : Int) (p : Int) (i : Int) = some ((x / 2 ^ d % 2 : Nat) : Int)
  | 0, i, k, x, h1, h3, hx => by
    obtain ⟨k, rfl⟩ := sucK h3
    simp only [spec_l04Bit.l0]
    rw [if_neg (by omega), Nat.pow_zero, Nat.div_one, Int.tmod_eq_emod_of_nonneg (by omega)]
    rfl
  | d + 1, i, k, x, h1, h3, hx => by
    obtain ⟨k, rfl⟩ := sucK h3
    simp only [spec_l04Bit.l0]
    have e : wrap64 (Int.tdiv (x : Int) 2) = ((x / 2 : Nat) : Int) := by
      rw [Int.tdiv_eq_ediv_of_nonneg (by omega), w64 (by omega) (by omega)]
      rfl
    rw [if_pos (by omega), w64n (by omega), e, bit_l0 p hp d (i + 1) k (x / 2) (by omega) (by omega) (by omega), Nat.div_div_eq_div_mul, ← Nat.pow_succ']
theorem mul_small (s q : Int) (hs : s = -1 ∨ s = 0 ∨ s = 1) (h0 : 0 ≤ q) (h1 : q ≤ 2147483648) : wrap64 (wrap64 s * q) = s * q ∧ -2147483648 ≤ s * q ∧ s * q ≤ 2147483648 := by
  have e : wrap64 s = s := w64 (by omega) (by omega)
  rw [e]
  rcases hs with rfl | rfl | rfl
  · rw [Int.neg_one_mul]
    exact ⟨w64 (by omega) (by omega), by omega, by omega⟩
  · rw [Int.zero_mul]
    exact ⟨w64 (by omega) (by omega), by omega, by omega⟩
  · rw [Int.one_mul]
    exact ⟨w64 (by omega) (by omega), by omega, by omega⟩
theorem with_f (x p : Nat) (v : Int) (k : Nat) (hp : p ≤ 31) (hx : x ≤ 4294967295) (hv : v = 0 ∨ v = 1) (hk : 40 < k) : spec_l04With.f k (x : Int) (p : Int) v = some (clr (x : Int) p + v * ((2 ^ p : Nat) : Int)) := by
  unfold spec_l04With.f spec_l04Bit.f
  have hb := bit_l0 p hp p 0 k x (by omega) (by omega) hx
  have hb' : spec_l04Bit.l0 k (x : Int) (p : Int) 0 = some ((x / 2 ^ p % 2 : Nat) : Int) := hb
  rw [hb', Option.bind_some, if_pos (by omega), shl_one p hp]
  obtain ⟨h1, h2, h3⟩ := clr_nat x p
  have hq := pow31 hp
  have hbit : x / 2 ^ p % 2 < 2 := Nat.mod_lt _ (by omega)
  have hc : clr (x : Int) p = (x : Int) - ((x / 2 ^ p % 2 : Nat) : Int) * ((2 ^ p : Nat) : Int) := by
    unfold clr
    simp
  rw [hc]
  generalize x / 2 ^ p % 2 = b at hbit
  generalize 2 ^ p = q at hq
  obtain ⟨m1, m2, m3⟩ := mul_small (v - (b : Int)) (q : Int) (by omega) (by omega) (by omega)
  have e : wrap64 (v - (b : Int)) = v - (b : Int) := w64 (by omega) (by omega)
  rw [e] at m1
  have m4 := mul_small (v - (b : Int)) (q : Int) (by omega) (by omega) (by omega)
  rw [m4.1, w64 (by omega) (by omega), Int.sub_mul]
  congr 1
  omega
/-- places of a list turned one after the other -/
def turn (f : Int → Int) (set : List Int) (acc : List Int) : List Int := set.foldl (fun a b => a.set b.toNat (f (rd a b))) acc
theorem turn_len (f : Int → Int) : ∀ (set acc : List Int), (turn f set acc).length = acc.length
  | [], acc => rfl
  | b :: set, acc => by
    show (turn f set (acc.set b.toNat (f (rd acc b)))).length = _
    rw [turn_len f set, List.length_set]
theorem turn_get (f : Int → Int) (hf : ∀ x, f (f x) = f x) : ∀ (set acc : List Int), (∀ b ∈ set, 0 ≤ b) → ∀ i (hi : i < acc.length), (turn f set acc)[i]'(by rw [turn_len]; exact hi) = if (i : Int) ∈ set then f acc[i] else acc[i]
  | [], acc, hb, i, hi => by simp [turn]
  | b :: set, acc, hb, i, hi => by
    have h0 : 0 ≤ b := hb b (List.mem_cons_self ..)
    have ih := turn_get f hf set (acc.set b.toNat (f (rd acc b))) (fun c hc => hb c (List.mem_cons_of_mem _ hc)) i (by rw [List.length_set]; exact hi)
    refine Eq.trans ih ?_
    by_cases hib : (i : Int) = b
    · have e : b.toNat = i := by omega
      subst hib
      have e2 : rd acc (i : Int) = acc[i] := rd_some hi
      simp only [Int.toNat_natCast, List.getElem_set_self, e2, hf, List.mem_cons, true_or, if_true, ite_self]
    · have e : b.toNat ≠ i := by omega
      rw [List.getElem_set_ne e]
      simp only [List.mem_cons, hib, false_or]
def Wild (n : Nat) (set : List Int) : Prop := ∃ b ∈ set, ¬ (2 ≤ b ∧ b < (n : Int))
instance (n : Nat) (set : List Int) : Decidable (Wild n set) := by unfold Wild; infer_instance
theorem wild_cons (n : Nat) (b : Int) (set : List Int) : Wild n (b :: set) ↔ ¬ (2 ≤ b ∧ b < (n : Int)) ∨ Wild n set := by
  unfold Wild
  simp only [List.mem_cons, exists_eq_or_imp]
theorem spec_l0 (l : List Int) (hl : l.length ≤ 2048) (p : Int) (set : List Int) (hs : set.length < 9223372036854775807) : ∀ (d i K : Nat) (x8 : List Int), i + d = set.length → x8.length = l.length → spec_MapPlane.l0 (K + d + 1) l p x8 set (set.length : Int) (i : Int) = if Wild l.length (set.drop i) then some ([], 19) else spec_MapPlane.l1 K p (turn (fun _ => 1) (set.drop i) x8) [] l (l.length : Int) 0
  | 0, i, K, x8, h1, h2 => by
    rw [spec_MapPlane.l0.eq_2, if_neg (by omega), List.drop_eq_nil_of_le (by omega), if_neg (fun ⟨b, hb, _⟩ => by cases hb)]
    rfl
  | d + 1, i, K, x8, h1, h2 => by
    have hi : i < set.length := by omega
    rw [show K + (d + 1) + 1 = (K + d + 1) + 1 by omega, spec_MapPlane.l0.eq_2, if_pos (by omega), if_pos (by omega), if_pos (by omega), rd_some hi, List.drop_eq_getElem_cons hi]
    generalize set[i] = b
    by_cases c1 : b < 2
    · rw [if_pos c1, if_pos ((wild_cons _ _ _).2 (Or.inl (by omega)))]
    · rw [if_neg c1]
      by_cases c2 : b ≥ (l.length : Int)
      · rw [if_pos c2, if_pos ((wild_cons _ _ _).2 (Or.inl (by omega)))]
      · rw [if_neg c2, if_pos (by omega), if_pos (by omega), w64n (by omega), spec_l0 l hl p set hs d (i + 1) K _ (by omega) (by simpa using h2)]
        have e : Wild l.length (b :: set.drop (i + 1)) ↔ Wild l.length (set.drop (i + 1)) := by
          rw [wild_cons]
          exact ⟨fun h => h.elim (fun h => absurd ⟨by omega, by omega⟩ h) id, Or.inr⟩
        simp only [e]
        rfl
/-- one word of the answer -/
def word1 (l x8 : List Int) (p : Nat) (b : Nat) : Int := if b ≥ 2 then clr (rd l (b : Int)) p + rd x8 (b : Int) * ((2 ^ p : Nat) : Int) else rd l (b : Int)
theorem spec_l1 (l : List Int) (hl : l.length ≤ 2048) (hw : ∀ x ∈ l, 0 ≤ x ∧ x ≤ 4294967295) (p : Nat) (hp : p ≤ 31) (x8 : List Int) (h8 : x8.length = l.length) (hv : ∀ x ∈ x8, x = 0 ∨ x = 1) : ∀ (d i k : Nat) (x11 : List Int), i + d = l.length → x11.length = i → d + 50 < k → spec_MapPlane.l1 k (p : Int) x8 x11 l (l.length : Int) (i : Int) = some (x11 ++ (List.range' i d).map (word1 l x8 p), 0)
  | 0, i, k, x11, h1, h2, h3 => by
    obtain ⟨k, rfl⟩ := sucK h3
    rw [spec_MapPlane.l1.eq_2, if_neg (by omega)]
    simp
  | d + 1, i, k, x11, h1, h2, h3 => by
    obtain ⟨k, rfl⟩ := sucK h3
    have hi : i < l.length := by omega
    have hi8 : i < x8.length := by omega
    have hwi := hw _ (List.getElem_mem hi)
    rw [spec_MapPlane.l1.eq_2, if_pos (by omega), if_pos (by omega), if_pos (by omega), rd_some hi, rd_some hi8]
    have step : spec_MapPlane.l1 k (p : Int) x8 (x11 ++ [word1 l x8 p i]) l (l.length : Int) (wrap64 ((i : Int) + 1)) = some (x11 ++ (List.range' i (d + 1)).map (word1 l x8 p), 0) := by
      rw [w64n (by omega), spec_l1 l hl hw p hp x8 h8 hv d (i + 1) k _ (by omega) (by simp [h2]) (by omega), List.range'_succ]
      simp
    by_cases c : (i : Int) ≥ 2
    · have e : word1 l x8 p i = clr (l[i]) p + x8[i] * ((2 ^ p : Nat) : Int) := by rw [word1, if_pos (by omega), rd_some hi, rd_some hi8]
      obtain ⟨x, hx⟩ := Int.eq_ofNat_of_zero_le hwi.1
      have hf := with_f x p x8[i] k hp (by omega) (hv _ (List.getElem_mem hi8)) (by omega)
      rw [← hx, ← e] at hf
      rw [if_pos c, if_pos (by omega), hf, Option.bind_some, if_pos (by omega), step]
    · have e : word1 l x8 p i = l[i] := by rw [word1, if_neg (by omega), rd_some hi]
      rw [if_neg c, if_pos (by omega), ← e, step]
theorem impl_l0 (l set : List Int) (p : Nat) (hp : p ≤ 31) : ∀ (d i K : Nat) (x8 : List Int), x8.length ≤ 2048 → i + d = x8.length → impl_MapPlane.l0 (K + d + 1) l (p : Int) set x8 (i : Int) = impl_MapPlane.l1 K l (p : Int) (x8.take i ++ (x8.drop i).map (fun x => Go.bits .andNot .i64 x ((2 ^ p : Nat) : Int))) set (set.length : Int) 0
  | 0, i, K, x8, h0, h1 => by
    rw [impl_MapPlane.l0.eq_2, if_neg (by omega), List.drop_eq_nil_of_le (by omega), List.take_of_length_le (by omega), List.map_nil, List.append_nil]
  | d + 1, i, K, x8, h0, h1 => by
    have hi : i < x8.length := by omega
    rw [show K + (d + 1) + 1 = (K + d + 1) + 1 by omega, impl_MapPlane.l0.eq_2, if_pos (by omega), if_pos (by omega), if_pos (by omega), w64n (by omega), impl_l0 l set p hp d (i + 1) K _ (by simpa using h0) (by simpa using (by omega)), shl_one p hp, Int.toNat_natCast, rd_some hi, List.take_succ_eq_append_getElem (by simpa using hi), List.getElem_set_self, List.take_set_of_le (Nat.le_refl i), List.drop_set_of_lt (by omega), List.drop_eq_getElem_cons hi, List.map_cons, List.append_assoc]
    rfl
theorem impl_l1 (l : List Int) (hl : l.length ≤ 2048) (h64 : 64 ≤ l.length) (p : Nat) (hp : p ≤ 31) (set : List Int) (hs : set.length < 9223372036854775807) : ∀ (d i k : Nat) (x8 : List Int), i + d = set.length → x8.length = l.length → d < k → impl_MapPlane.l1 k l (p : Int) x8 set (set.length : Int) (i : Int) = some (if Wild l.length (set.drop i) then ([], 19) else (turn (fun x => Go.bits .or .i64 x ((2 ^ p : Nat) : Int)) (set.drop i) x8, 0))
  | 0, i, k, x8, h1, h2, h3 => by
    obtain ⟨k, rfl⟩ := sucK h3
    rw [impl_MapPlane.l1.eq_2, if_neg (by omega), List.drop_eq_nil_of_le (by omega), if_neg (fun ⟨b, hb, _⟩ => by cases hb)]
    rfl
  | d + 1, i, k, x8, h1, h2, h3 => by
    obtain ⟨k, rfl⟩ := sucK h3
    have hi : i < set.length := by omega
    rw [impl_MapPlane.l1.eq_2, if_pos (by omega), if_pos (by omega), if_pos (by omega), rd_some hi, List.drop_eq_getElem_cons hi, within_f, Option.bind_some, w64 (by omega) (by omega)]
    generalize set[i] = b
    by_cases c1 : 2 ≤ b ∧ b ≤ (l.length : Int) - 1
    · rw [if_pos (decide_eq_true c1), if_pos (by omega), if_pos (by omega), if_pos (by omega), w64n (by omega), impl_l1 l hl h64 p hp set hs d (i + 1) k _ (by omega) (by simpa using h2) (by omega), shl_one p hp]
      have e : Wild l.length (b :: set.drop (i + 1)) ↔ Wild l.length (set.drop (i + 1)) := by
        rw [wild_cons]
        exact ⟨fun h => h.elim (fun h => absurd ⟨by omega, by omega⟩ h) id, Or.inr⟩
      simp only [e]
      rfl
    · rw [if_neg (by simpa using c1), if_pos ((wild_cons _ _ _).2 (Or.inl (by omega)))]
def planeR (l : List Int) (p : Int) (set : List Int) : List Int × Int :=
  if impl_mapRight.f l = some true ∧ 0 ≤ p ∧ p ≤ 31 then (if Wild l.length set then ([], 19) else (turn (fun x => Go.bits .or .i64 x ((2 ^ p.toNat : Nat) : Int)) set (l.take 2 ++ (l.drop 2).map (fun x => Go.bits .andNot .i64 x ((2 ^ p.toNat : Nat) : Int))), 0)) else ([], 7)
theorem right_cases (l : List Int) : impl_mapRight.f l = some true ∨ impl_mapRight.f l = some false := by
  unfold impl_mapRight.f
  rcases Bool.eq_false_or_eq_true (decide (64 ≤ l.length ∧ l.length ≤ 2048 ∧ ¬ impl_mapRight.bad l ∧ rd l 0 = 1 ∧ rd l 1 = 1)) with h | h <;> rw [h] <;> simp
theorem impl_f (l : List Int) (p : Int) (set : List Int) (hs : set.length ≤ 1048576) (k : Nat) (hk : 1100000 < k) : impl_MapPlane.f k l p set = some (planeR l p set) := by
  unfold impl_MapPlane.f planeR
  rcases right_cases l with hr | hr
  · obtain ⟨h64, hl, hw⟩ := right_words hr
    rw [hr, Option.bind_some, if_pos rfl, within_f, Option.bind_some]
    obtain ⟨k, rfl⟩ := sucK hk
    rw [impl_MapPlane.j0.eq_2]
    by_cases hp : 0 ≤ p ∧ p ≤ 31
    · obtain ⟨p, rfl⟩ := Int.eq_ofNat_of_zero_le hp.1
      have hp31 : p ≤ 31 := by omega
      rw [decide_eq_true hp, if_neg (by decide), if_pos ⟨rfl, hp⟩, slices_Clone_int_int.f, Option.bind_some, if_pos (by simp; omega), Option.bind_some, List.nil_append, Int.toNat_natCast]
      have h0 := impl_l0 l set p hp31 (l.length - 2) 2 (k - (l.length - 2) - 1) l hl (by omega)
      have h1 := impl_l1 l hl h64 p hp31 set (by omega) set.length 0 (k - (l.length - 2) - 1) (l.take 2 ++ (l.drop 2).map (fun x => Go.bits .andNot .i64 x ((2 ^ p : Nat) : Int))) (by omega) (by simp; omega) (by omega)
      rw [show k - (l.length - 2) - 1 + (l.length - 2) + 1 = k by omega] at h0
      rw [List.drop_zero] at h1
      refine Eq.trans h0 (Eq.trans h1 ?_)
      rfl
    · rw [decide_eq_false hp, if_pos (show (!false) = true from rfl), if_neg (fun h => hp h.2)]
  · rw [hr, Option.bind_some, if_neg (by decide), if_neg (fun h => by simp at h)]
    obtain ⟨k, rfl⟩ := sucK hk
    rw [impl_MapPlane.j0.eq_2, if_pos rfl]
theorem out_eq (l : List Int) (p : Nat) (hp : p ≤ 31) (set : List Int) (hl : 64 ≤ l.length) (hw : ∀ x ∈ l, 0 ≤ x ∧ x ≤ 4294967295) (hset : ¬ Wild l.length set) :
    (List.range' 0 l.length).map (word1 l (turn (fun _ => 1) set (List.replicate l.length 0)) p) = turn (fun x => Go.bits .or .i64 x ((2 ^ p : Nat) : Int)) set (l.take 2 ++ (l.drop 2).map (fun x => Go.bits .andNot .i64 x ((2 ^ p : Nat) : Int))) := by
  have hin : ∀ b ∈ set, 2 ≤ b ∧ b < (l.length : Int) := fun b hb => Decidable.byContradiction fun h => hset ⟨b, hb, h⟩
  have hin0 : ∀ b ∈ set, 0 ≤ b := fun b hb => by have := (hin b hb).1; omega
  have hC : (l.take 2 ++ (l.drop 2).map (fun x => Go.bits .andNot .i64 x ((2 ^ p : Nat) : Int))).length = l.length := by simp; omega
  apply List.ext_getElem
  · rw [turn_len, hC]; simp
  intro i h1 h2
  have hi : i < l.length := by simpa using h1
  rw [turn_get _ (fun x => or_idem x _) set _ hin0 i (by omega)]
  simp only [List.getElem_map, List.getElem_range', Nat.zero_add, Nat.one_mul]
  have hx := turn_get (fun _ => 1) (fun _ => rfl) set (List.replicate l.length 0) hin0 i (by simpa using hi)
  rw [List.getElem_replicate] at hx
  have hX : rd (turn (fun _ => 1) set (List.replicate l.length 0)) (i : Int) = if (i : Int) ∈ set then 1 else 0 := by
    rw [rd_some (by rw [turn_len]; simpa using hi)]
    exact hx
  unfold word1
  rw [hX, rd_some hi]
  by_cases h2 : i < 2
  · have hn : (i : Int) ∉ set := fun h => by have := (hin _ h).1; omega
    rw [if_neg (by omega), if_neg hn, List.getElem_append_left (by simp; omega), List.getElem_take]
  · have hc : (l.take 2 ++ (l.drop 2).map (fun x => Go.bits .andNot .i64 x ((2 ^ p : Nat) : Int)))[i]'(by omega) = clr l[i] p := by
      obtain ⟨x, hx⟩ := Int.eq_ofNat_of_zero_le (hw _ (List.getElem_mem hi)).1
      have hx2 := (hw _ (List.getElem_mem hi)).2
      have e : ∀ (h : i - (l.take 2).length < ((l.drop 2).map (fun x => Go.bits .andNot .i64 x ((2 ^ p : Nat) : Int))).length), ((l.drop 2).map (fun x => Go.bits .andNot .i64 x ((2 ^ p : Nat) : Int)))[i - (l.take 2).length] = Go.bits .andNot .i64 l[i] ((2 ^ p : Nat) : Int) := by
        intro h
        rw [List.getElem_map, List.getElem_drop]
        have : 2 + (i - (l.take 2).length) = i := by simp; omega
        simp only [this]
      rw [List.getElem_append_right (by simp; omega), e, hx, bits_andnot x p hp (by omega)]
    rw [if_pos (by omega), hc]
    by_cases hm : (i : Int) ∈ set
    · rw [if_pos hm, if_pos hm]
      obtain ⟨x, hx⟩ := Int.eq_ofNat_of_zero_le (hw _ (List.getElem_mem hi)).1
      have hx2 := (hw _ (List.getElem_mem hi)).2
      obtain ⟨e1, e2, e3⟩ := clr_nat x p
      rw [hx, e1, bits_or _ p hp (by omega) e2, Int.one_mul]
      rfl
    · rw [if_neg hm, if_neg hm, Int.zero_mul, Int.add_zero]
theorem ones (set acc : List Int) (h : ∀ x ∈ acc, x = 0 ∨ x = 1) : ∀ x ∈ turn (fun _ => 1) set acc, x = 0 ∨ x = 1 := by
  induction set generalizing acc with
  | nil => exact h
  | cons b set ih =>
    refine ih _ (fun x hx => ?_)
    rcases List.mem_or_eq_of_mem_set hx with h' | h'
    · exact h x h'
    · exact Or.inr h'
theorem spec_f (l : List Int) (p : Int) (set : List Int) (hs : set.length ≤ 1048576) (k : Nat) (hk : 1100000 < k) : spec_MapPlane.f k l p set = some (planeR l p set) := by
  unfold spec_MapPlane.f planeR
  rw [right_f l k (by omega)]
  rcases right_cases l with hr | hr
  · obtain ⟨h64, hl, hw⟩ := right_words hr
    rw [hr, Option.bind_some, if_pos rfl]
    obtain ⟨k, rfl⟩ := sucK hk
    by_cases c1 : p < 0
    · rw [if_pos c1, spec_MapPlane.j0.eq_2, if_pos rfl, if_neg (fun h => by omega)]
    rw [if_neg c1, spec_MapPlane.j0.eq_2]
    by_cases c2 : p > 31
    · rw [if_pos (decide_eq_true c2), if_neg (fun h => by omega)]
    obtain ⟨p, rfl⟩ := Int.eq_ofNat_of_zero_le (show 0 ≤ p by omega)
    have hp31 : p ≤ 31 := by omega
    rw [if_neg (by simpa using c2), if_pos (by omega), if_pos (by omega), if_pos ⟨rfl, by omega, by omega⟩, Int.toNat_natCast, Int.toNat_natCast]
    have h0 := spec_l0 l hl (p : Int) set (by omega) set.length 0 (k - set.length - 1) (List.replicate l.length 0) (by omega) (by simp)
    rw [show k - set.length - 1 + set.length + 1 = k by omega, List.drop_zero] at h0
    refine Eq.trans h0 ?_
    by_cases hset : Wild l.length set
    · rw [if_pos hset, if_pos hset]
    · rw [if_neg hset, if_neg hset]
      have h1 := spec_l1 l hl hw p hp31 (turn (fun _ => 1) set (List.replicate l.length 0)) (by rw [turn_len]; simp) (ones _ _ (fun x hx => Or.inl (List.eq_of_mem_replicate hx))) l.length 0 (k - set.length - 1) [] (by omega) rfl (by omega)
      rw [List.nil_append, out_eq l p hp31 set h64 hw hset] at h1
      exact h1
  · rw [hr, Option.bind_some, if_neg (by decide), if_neg (fun h => by simp at h)]
    obtain ⟨k, rfl⟩ := sucK hk
    rw [spec_MapPlane.j0.eq_2, if_pos rfl]
theorem planeR_len (l : List Int) (p : Int) (set : List Int) : (planeR l p set).1.length ≤ 2048 := by
  unfold planeR
  by_cases c : impl_mapRight.f l = some true ∧ 0 ≤ p ∧ p ≤ 31
  · obtain ⟨h64, hl, hw⟩ := right_words c.1
    rw [if_pos c]
    by_cases h : Wild l.length set
    · rw [if_pos h]; simp
    · rw [if_neg h]
      simp only [turn_len]
      simp
      omega
  · rw [if_neg c]; simp
theorem FnExactMapPlane : laws_FnExactMapPlane.Pure := by
  intro l p set _ _ _ _ _ _ _
  refine ⟨2000000, ?_⟩
  unfold laws_FnExactMapPlane.f
  by_cases hl : (l.length : Int) > 1048576
  · rw [if_pos hl]
  by_cases hs : (set.length : Int) > 1048576
  · rw [if_neg hl, if_pos hs]
  rw [if_neg hl, if_neg hs]
  have hn : l.length ≤ 1048576 := by omega
  have hq : set.length ≤ 1048576 := by omega
  have hr := planeR_len l p set
  have t1 := fun k (hk : 1100000 < k) => toIntS_f l k hn (by omega)
  have t2 := fun k (hk : 1100000 < k) => toIntS_f set k hq (by omega)
  have e1 := fun k (hk : 1100000 < k) => eqIntS_f l l k hn (by omega)
  have e2 := fun k (hk : 1100000 < k) => eqIntS_f set set k hq (by omega)
  have e3 := fun k (hk : 1100000 < k) => eqIntS_f (planeR l p set).1 (planeR l p set).1 k (by omega) (by omega)
  have m1 := fun k (hk : 1100000 < k) => markIntS_f l 1 k hn (by omega) (by omega)
  have m2 := fun k (hk : 1100000 < k) => markIntS_f set (1 + l.length) k hq (by omega) (by omega)
  have m3 := fun k (hk : 1100000 < k) => markIntS_f (planeR l p set).1 1 k (by omega) (by omega) (by omega)
  have h3 := fun k (hk : 1100000 < k) => heldIntS_f (planeR l p set).1.length 1 k (by omega) (by omega) (by omega)
  have s1 := fun k (hk : 1100000 < k) => spec_f l p set hq k hk
  have i1 := fun k (hk : 1100000 < k) => impl_f l p set hq k hk
  have c1 : ((1 : Nat) : Int) = 1 := rfl
  rw [c1] at m1 m3 h3
  have n1 : ¬ (((1 + l.length + set.length : Nat) : Int) < 0) := by omega
  have n2 : ¬ (((1 + (planeR l p set).1.length : Nat) : Int) < 0) := by omega
  simp (disch := omega) only [t1, t2, s1, i1, e3, Option.bind_some, decide_true, if_true, bne_self_eq_false]
  rw [show (2000000 : Nat) = 1999999 + 1 from rfl]
  simp only [laws_FnExactMapPlane.j0, Bool.false_eq_true, if_false]
  simp (disch := omega) only [t1, t2, e1, e2, m1, m2, e3, Option.bind_some, decide_true, if_true, if_neg n1, bne_self_eq_false]
  rw [show (1999999 : Nat) = 1999998 + 1 from rfl]
  simp only [laws_FnExactMapPlane.j1, Bool.false_eq_true, if_false]
  simp (disch := omega) only [t1, t2, i1, m3, h3, e3, Option.bind_some, decide_true, if_true, if_neg n2, bne_self_eq_false]
  rw [show (1999998 : Nat) = 1999997 + 1 from rfl]
  simp only [laws_FnExactMapPlane.j2, Bool.false_eq_true, if_false]
  simp (disch := omega) only [h3, Option.bind_some, if_true, if_neg n2]

end Go.Proofs.Ytjhaofdnlnbajaa.Pure
