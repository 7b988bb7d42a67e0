/- The law of MapCount answers true at every argument; no condition. -/
import Derived.Test.YtjhaofdnlnbajaaPFnExactMapCountx9
import Derived.OpenShut
import Derived.Laws.BitsLemmas
namespace Go.Proofs.Ytjhaofdnlnbajaa.Pure
open Go.RowKit Go.Proofs.Ytjhaofdnlnbajaa.PFnExactMapCount Go.Proofs.YtjhaofdnlnbajaaW.PrintWords Go.Proofs.YtjhaofdnlnbajaaW.PrintLast
set_option linter.unusedVariables false

theorem w64 {x : Int} (h0 : -9223372036854775808 ≤ x) (h1 : x ≤ 9223372036854775807) : wrap64 x = x := by unfold wrap64; omega
theorem w64n {n : Nat} (h : n < 9223372036854775807) : wrap64 ((n : Int) + 1) = ((n + 1 : Nat) : Int) := by unfold wrap64; omega
theorem sucK {n k : Nat} (h : n < k) : ∃ m, k = m + 1 := ⟨k - 1, by omega⟩
theorem rdN (xs : List Int) (i : Nat) : rd xs (i : Int) = xs.getD i 0 := by simp [rd]
theorem rd_some {xs : List Int} {i : Nat} (h : i < xs.length) : rd xs (i : Int) = xs[i] := by rw [rdN, List.getD_eq_getElem?_getD, List.getElem?_eq_getElem h]; rfl

theorem toIntS_l0 (x0 : List Int) (hn : x0.length < 9223372036854775807) : ∀ (d i k : Nat) (x3 : List Int), i + d = x0.length → x3.length = x0.length → d < k → laws_toIntS.l0 k x0 x3 (i : Int) = some (x3.take i ++ x0.drop i)
  | 0, i, k, x3, h1, h2, h3 => by
    obtain ⟨k, rfl⟩ := sucK h3
    simp only [laws_toIntS.l0]
    rw [if_neg (by omega), List.take_of_length_le (by omega), List.drop_eq_nil_of_le (by omega), List.append_nil]
  | d + 1, i, k, x3, h1, h2, h3 => by
    obtain ⟨k, rfl⟩ := sucK h3
    simp only [laws_toIntS.l0]
    rw [if_pos (by omega), if_pos (by omega), if_pos (by omega), w64n (by omega), toIntS_l0 x0 hn d (i + 1) k _ (by omega) (by simpa using h2) (by omega)]
    have hi : i < x0.length := by omega
    rw [Int.toNat_natCast, rd_some hi, List.take_succ_eq_append_getElem (by rw [List.length_set]; omega), List.getElem_set_self, List.take_set_of_le (Nat.le_refl i), List.append_assoc, List.drop_eq_getElem_cons hi]
    rfl
theorem toIntS_f (l : List Int) (k : Nat) (hn : l.length ≤ 1048576) (hk : l.length < k) : laws_toIntS.f k l = some l := by
  unfold laws_toIntS.f
  rw [if_pos (by omega), if_pos (by omega)]
  have h := toIntS_l0 l (by omega) l.length 0 k (List.replicate ((l.length : Int)).toNat 0) (by omega) (by simp) hk
  rw [List.take_zero, List.drop_zero, List.nil_append] at h
  exact h

theorem eqIntS_l0 (x0 x1 : List Int) (hn : x0.length < 9223372036854775807) (hl : x0.length = x1.length) : ∀ (d i k : Nat), i + d = x0.length → d < k → laws_eqIntS.l0 k x0 x1 (i : Int) = some (decide (x0.drop i = x1.drop i))
  | 0, i, k, h1, h3 => by
    obtain ⟨k, rfl⟩ := sucK h3
    simp only [laws_eqIntS.l0]
    rw [if_neg (by omega), List.drop_eq_nil_of_le (by omega), List.drop_eq_nil_of_le (by omega)]
    simp
  | d + 1, i, k, h1, h3 => by
    obtain ⟨k, rfl⟩ := sucK h3
    simp only [laws_eqIntS.l0]
    have hi : i < x0.length := by omega
    have hi1 : i < x1.length := by omega
    have hd0 := List.drop_eq_getElem_cons hi
    have hd1 := List.drop_eq_getElem_cons hi1
    rw [if_pos (by omega), if_pos (by omega), if_pos (by omega), w64n (by omega), eqIntS_l0 x0 x1 hn hl d (i + 1) k (by omega) (by omega), rd_some hi, rd_some hi1]
    by_cases h : x0[i] = x1[i]
    · rw [if_pos h]
      simp only [hd0, hd1, List.cons.injEq, h, true_and]
    · rw [if_neg h]
      simp only [hd0, hd1, List.cons.injEq, h, false_and, decide_false]
theorem eqIntS_f (a b : List Int) (k : Nat) (hn : a.length ≤ 1048576) (hk : a.length < k) : laws_eqIntS.f k a b = some (decide (a = b)) := by
  unfold laws_eqIntS.f
  by_cases h : a.length = b.length
  · rw [if_pos (by omega)]
    exact eqIntS_l0 a b (by omega) h a.length 0 k (by omega) hk
  · rw [if_neg (by omega)]
    have : a ≠ b := fun e => h (by rw [e])
    simp [this]

theorem bad_cons (x : Int) (xs : List Int) : impl_mapRight.bad (x :: xs) ↔ (¬ (0 ≤ x ∧ x ≤ 4294967295)) ∨ impl_mapRight.bad xs := by
  unfold impl_mapRight.bad
  simp only [List.mem_cons, exists_eq_or_imp]
theorem right_l0 (l : List Int) (hn : l.length < 9223372036854775807) : ∀ (d i k : Nat), i + d = l.length → d < k → spec_L04Right.l0 k l (l.length : Int) (i : Int) = some (decide (¬ impl_mapRight.bad (l.drop i)))
  | 0, i, k, h1, h3 => by
    obtain ⟨k, rfl⟩ := sucK h3
    simp only [spec_L04Right.l0]
    rw [if_neg (by omega), List.drop_eq_nil_of_le (by omega)]
    simp [impl_mapRight.bad]
  | d + 1, i, k, h1, h3 => by
    obtain ⟨k, rfl⟩ := sucK h3
    simp only [spec_L04Right.l0]
    have hi : i < l.length := by omega
    rw [if_pos (by omega), if_pos (by omega), if_pos (by omega), w64n (by omega), right_l0 l hn d (i + 1) k (by omega) (by omega), rd_some hi, List.drop_eq_getElem_cons hi]
    generalize l[i] = x
    by_cases h1 : x < 0
    · rw [if_pos h1, decide_eq_false (fun h => h ((bad_cons _ _).2 (Or.inl (by omega))))]
    · rw [if_neg h1]
      by_cases h2 : x > 4294967295
      · rw [if_pos h2, decide_eq_false (fun h => h ((bad_cons _ _).2 (Or.inl (by omega))))]
      · rw [if_neg h2]
        congr 1
        apply decide_eq_decide.2
        rw [bad_cons]
        constructor
        · rintro h (h' | h')
          · omega
          · exact h h'
        · exact fun h h' => h (Or.inr h')
theorem right_f (l : List Int) (k : Nat) (hk : 3000 < k) : spec_L04Right.f k l = impl_mapRight.f l := by
  obtain ⟨k, rfl⟩ := sucK hk
  unfold spec_L04Right.f impl_mapRight.f
  by_cases c1 : (l.length : Int) < 64
  · rw [if_pos c1, spec_L04Right.j0, if_pos rfl, decide_eq_false (fun h => by omega)]
  rw [if_neg c1]
  by_cases c2 : (l.length : Int) > 2048
  · rw [if_pos c2, spec_L04Right.j0, if_pos rfl, decide_eq_false (fun h => by omega)]
  rw [if_neg c2, if_pos (by omega)]
  by_cases c3 : rd l 0 = 1
  · rw [if_pos c3, if_pos (by omega), spec_L04Right.j0]
    by_cases c4 : rd l 1 = 1
    · have := right_l0 l (by omega) l.length 0 k (by omega) (by omega)
      rw [List.drop_zero] at this
      rw [if_neg (by simp [c4]), show (0 : Int) = ((0 : Nat) : Int) from rfl, this]
      congr 1
      apply decide_eq_decide.2
      exact ⟨fun h => ⟨by omega, by omega, h, c3, c4⟩, fun h => h.2.2.1⟩
    · rw [if_pos (by simp [c4]), decide_eq_false (fun h => c4 h.2.2.2.2)]
  · rw [if_neg c3, spec_L04Right.j0, if_pos rfl, decide_eq_false (fun h => c3 h.2.2.2.1)]
theorem within_f (a b c : Int) : impl_within.f a b c = some (decide (b ≤ a ∧ a ≤ c)) := impl_mapRight.hW a b c
theorem right_words {l : List Int} (h : impl_mapRight.f l = some true) : 64 ≤ l.length ∧ l.length ≤ 2048 ∧ ∀ x ∈ l, 0 ≤ x ∧ x ≤ 4294967295 := by
  have h := of_decide_eq_true (Option.some.inj h)
  refine ⟨h.1, h.2.1, fun x hx => ?_⟩
  apply Decidable.byContradiction
  intro hc
  exact h.2.2.1 ⟨x, hx, hc⟩

/-- w without bit p -/
def clr (w : Int) (p : Nat) : Int := w - (w / ((2 ^ p : Nat) : Int) % 2) * ((2 ^ p : Nat) : Int)
theorem pow31 {p : Nat} (hp : p ≤ 31) : 2 ^ p ≤ 2147483648 := by
  have := Nat.pow_le_pow_right (show 0 < 2 by omega) hp
  simpa using this
theorem shl_one (p : Nat) (hp : p ≤ 31) : shl .i64 1 (p : Int) = ((2 ^ p : Nat) : Int) := by
  unfold shl
  have h := pow31 hp
  rw [Int.toNat_natCast, Nat.min_eq_left (by simp [IntKind.bits]; omega), IntKind.wrap_i64, Int.one_mul]
  have e : ((2 : Int) ^ p) = ((2 ^ p : Nat) : Int) := by simp
  rw [e]
  generalize 2 ^ p = q at h ⊢
  omega
theorem split_bit (x p : Nat) : x = 2 ^ (p + 1) * (x / 2 ^ (p + 1)) + (x / 2 ^ p % 2 * 2 ^ p + x % 2 ^ p) := by
  have h1 := Nat.div_add_mod x (2 ^ p)
  have h2 := Nat.div_add_mod (x / 2 ^ p) 2
  rw [Nat.div_div_eq_div_mul, ← Nat.pow_succ] at h2
  have h3 : x = 2 ^ p * (2 * (x / 2 ^ (p + 1)) + x / 2 ^ p % 2) + x % 2 ^ p := by rw [h2]; omega
  have h4 : 2 ^ (p + 1) = 2 ^ p * 2 := Nat.pow_succ ..
  rw [Nat.mul_add, ← Nat.mul_assoc, ← h4, Nat.mul_comm (2 ^ p) (x / 2 ^ p % 2), Nat.add_assoc] at h3
  exact h3
theorem or_clr (x p : Nat) (h : x / 2 ^ p % 2 = 0) : x ||| 2 ^ p = x + 2 ^ p := by
  have e := split_bit x p
  rw [h, Nat.zero_mul, Nat.zero_add] at e
  have hc : x % 2 ^ p < 2 ^ p := Nat.mod_lt _ (Nat.two_pow_pos p)
  generalize x / 2 ^ (p + 1) = a at e
  generalize x % 2 ^ p = c at e hc
  have hs : 2 ^ (p + 1) = 2 ^ p * 2 := Nat.pow_succ ..
  have hc' : c < 2 ^ (p + 1) := by omega
  have hd : 2 ^ p + c < 2 ^ (p + 1) := by omega
  have e1 := Nat.two_pow_add_eq_or_of_lt hc' a
  have e2 := Nat.two_pow_add_eq_or_of_lt hc 1
  have e3 := Nat.two_pow_add_eq_or_of_lt hd a
  rw [Nat.mul_one] at e2
  subst e
  rw [e1, Nat.or_assoc, Nat.or_comm c, ← e2, ← e3, ← e1]
  omega
theorem ofInt_nat (x : Nat) : BitVec.ofInt 64 (x : Int) = BitVec.ofNat 64 x := by
  apply BitVec.eq_of_toNat_eq
  simp
theorem ofInt_wrap (n : Int) : BitVec.ofInt 64 (IntKind.i64.wrap n) = BitVec.ofInt 64 n := by
  apply BitVec.eq_of_toNat_eq
  rw [BitVec.toNat_ofInt, BitVec.toNat_ofInt, IntKind.wrap_i64]
  congr 1
  omega
theorem or_idem (x y : Int) : Go.bits .or .i64 (Go.bits .or .i64 x y) y = Go.bits .or .i64 x y := by
  have h : BitVec.ofInt 64 (Go.bits .or .i64 x y) = BitVec.ofInt 64 x ||| BitVec.ofInt 64 y := by
    show BitVec.ofInt 64 (IntKind.i64.wrap (((BitVec.ofInt 64 x ||| BitVec.ofInt 64 y).toNat : Nat) : Int)) = _
    rw [ofInt_wrap, ofInt_nat, BitVec.ofNat_toNat]
    simp
  show IntKind.i64.wrap (((BitVec.ofInt 64 (Go.bits .or .i64 x y) ||| BitVec.ofInt 64 y).toNat : Nat) : Int) = IntKind.i64.wrap (((BitVec.ofInt 64 x ||| BitVec.ofInt 64 y).toNat : Nat) : Int)
  rw [h, BitVec.or_assoc, BitVec.or_self]
theorem bits_or (x p : Nat) (hp : p ≤ 31) (hx : x ≤ 4294967295) (h : x / 2 ^ p % 2 = 0) : Go.bits .or .i64 (x : Int) ((2 ^ p : Nat) : Int) = ((x + 2 ^ p : Nat) : Int) := by
  have hw := pow31 hp
  show IntKind.i64.wrap (((BitVec.ofInt 64 (x : Int) ||| BitVec.ofInt 64 ((2 ^ p : Nat) : Int)).toNat : Nat) : Int) = _
  rw [ofInt_nat, ofInt_nat, BitVec.toNat_or, BitVec.toNat_ofNat, BitVec.toNat_ofNat, Nat.mod_eq_of_lt (by omega), Nat.mod_eq_of_lt (by omega), or_clr x p h, IntKind.wrap_i64]
  generalize 2 ^ p = q at hw ⊢
  omega
theorem bv_andnot (X M : BitVec 64) (h : X &&& M = 0#64) : (X ||| M) &&& ~~~M = X ∧ X &&& ~~~M = X := by
  have hb : ∀ i (hi : i < 64), (X.getLsbD i && M.getLsbD i) = false := fun i hi => by
    have := congrArg (fun v : BitVec 64 => v.getLsbD i) h
    simpa using this
  constructor
  · apply BitVec.eq_of_getLsbD_eq
    intro i hi
    have := hb i hi
    simp only [BitVec.getLsbD_and, BitVec.getLsbD_or, BitVec.getLsbD_not, decide_eq_true hi, Bool.true_and]
    revert this
    cases X.getLsbD i <;> cases M.getLsbD i <;> simp
  · apply BitVec.eq_of_getLsbD_eq
    intro i hi
    have := hb i hi
    simp only [BitVec.getLsbD_and, BitVec.getLsbD_not, decide_eq_true hi, Bool.true_and]
    revert this
    cases X.getLsbD i <;> cases M.getLsbD i <;> simp
theorem clr_nat (w p : Nat) : clr (w : Int) p = ((w - w / 2 ^ p % 2 * 2 ^ p : Nat) : Int) ∧ (w - w / 2 ^ p % 2 * 2 ^ p) / 2 ^ p % 2 = 0 ∧ w = (w - w / 2 ^ p % 2 * 2 ^ p) + w / 2 ^ p % 2 * 2 ^ p := by
  have e := split_bit w p
  have hc : w % 2 ^ p < 2 ^ p := Nat.mod_lt _ (Nat.two_pow_pos p)
  have hle : w / 2 ^ p % 2 * 2 ^ p ≤ w := by
    generalize w / 2 ^ p % 2 * 2 ^ p = z at e
    omega
  refine ⟨?_, ?_, by omega⟩
  · unfold clr
    have : ((w : Int) / ((2 ^ p : Nat) : Int) % 2) * ((2 ^ p : Nat) : Int) = ((w / 2 ^ p % 2 * 2 ^ p : Nat) : Int) := by simp
    rw [this]
    omega
  · have e2 : w - w / 2 ^ p % 2 * 2 ^ p = 2 ^ p * (2 * (w / 2 ^ (p + 1))) + w % 2 ^ p := by
      have hs : 2 ^ (p + 1) = 2 ^ p * 2 := Nat.pow_succ ..
      rw [← Nat.mul_assoc, ← hs]
      generalize w / 2 ^ p % 2 * 2 ^ p = z at e hle ⊢
      omega
    rw [e2, Nat.mul_add_div (Nat.two_pow_pos p), Nat.div_eq_of_lt hc]
    omega
theorem and_clr (x p : Nat) (h : x / 2 ^ p % 2 = 0) : x &&& 2 ^ p = 0 := by
  apply Nat.eq_of_testBit_eq
  intro i
  rw [Nat.testBit_and, Nat.testBit_two_pow, Nat.zero_testBit]
  by_cases hi : p = i
  · subst hi
    rw [Nat.testBit_eq_decide_div_mod_eq, h]
    simp
  · simp [hi]
theorem bits_andnot (w p : Nat) (hp : p ≤ 31) (hw : w ≤ 4294967295) : Go.bits .andNot .i64 (w : Int) ((2 ^ p : Nat) : Int) = clr (w : Int) p := by
  obtain ⟨h1, h2, h3⟩ := clr_nat w p
  have hq := pow31 hp
  rw [h1]
  generalize hx : w - w / 2 ^ p % 2 * 2 ^ p = x at h1 h2 h3
  have hxw : x ≤ w := by omega
  have hz : BitVec.ofNat 64 x &&& BitVec.ofNat 64 (2 ^ p) = 0#64 := by
    apply BitVec.eq_of_toNat_eq
    rw [BitVec.toNat_and, BitVec.toNat_ofNat, BitVec.toNat_ofNat, Nat.mod_eq_of_lt (by omega), Nat.mod_eq_of_lt (by omega), and_clr x p h2]
    rfl
  obtain ⟨k1, k2⟩ := bv_andnot _ _ hz
  show IntKind.i64.wrap (((BitVec.ofInt 64 (w : Int) &&& ~~~BitVec.ofInt 64 ((2 ^ p : Nat) : Int)).toNat : Nat) : Int) = _
  rw [ofInt_nat, ofInt_nat]
  have e : BitVec.ofNat 64 w &&& ~~~BitVec.ofNat 64 (2 ^ p) = BitVec.ofNat 64 x := by
    rcases (by omega : w / 2 ^ p % 2 = 0 ∨ w / 2 ^ p % 2 = 1) with hb | hb
    · rw [hb] at h3
      rw [show w = x by omega]
      exact k2
    · rw [hb, Nat.one_mul] at h3
      have : BitVec.ofNat 64 w = BitVec.ofNat 64 x ||| BitVec.ofNat 64 (2 ^ p) := by
        apply BitVec.eq_of_toNat_eq
        rw [BitVec.toNat_or, BitVec.toNat_ofNat, BitVec.toNat_ofNat, BitVec.toNat_ofNat, Nat.mod_eq_of_lt (by omega), Nat.mod_eq_of_lt (by omega), Nat.mod_eq_of_lt (by omega), or_clr x p h2]
        exact h3
      rw [this]
      exact k1
  rw [e, BitVec.toNat_ofNat, Nat.mod_eq_of_lt (by omega), IntKind.wrap_i64]
  omega

theorem bit_l0 (p : Nat) (hp : p ≤ 31) : ∀ (d i k : Nat) (x : Nat), i + d = p → d < k → x ≤ 4294967295 → spec_l04Bit.l0 k (x : Int) (p : Int) (i : Int) = some ((x / 2 ^ d % 2 : Nat) : Int)
  | 0, i, k, x, h1, h3, hx => by
    obtain ⟨k, rfl⟩ := sucK h3
    simp only [spec_l04Bit.l0]
    rw [if_neg (by omega), Nat.pow_zero, Nat.div_one, Int.tmod_eq_emod_of_nonneg (by omega)]
    rfl
  | d + 1, i, k, x, h1, h3, hx => by
    obtain ⟨k, rfl⟩ := sucK h3
    simp only [spec_l04Bit.l0]
    have e : wrap64 (Int.tdiv (x : Int) 2) = ((x / 2 : Nat) : Int) := by
      rw [Int.tdiv_eq_ediv_of_nonneg (by omega), w64 (by omega) (by omega)]
      rfl
    rw [if_pos (by omega), w64n (by omega), e, bit_l0 p hp d (i + 1) k (x / 2) (by omega) (by omega) (by omega), Nat.div_div_eq_div_mul, ← Nat.pow_succ']
theorem and_one (y : Nat) (hy : y ≤ 4294967295) : Go.bits .and .i64 (y : Int) 1 = ((y % 2 : Nat) : Int) := by
  show IntKind.i64.wrap (((BitVec.ofInt 64 (y : Int) &&& BitVec.ofInt 64 ((1 : Nat) : Int)).toNat : Nat) : Int) = _
  rw [ofInt_nat, ofInt_nat, BitVec.toNat_and, BitVec.toNat_ofNat, BitVec.toNat_ofNat, Nat.mod_eq_of_lt (by omega), Nat.mod_eq_of_lt (by omega), Nat.and_one_is_mod, IntKind.wrap_i64]
  omega
theorem shr_nat (x p : Nat) (hp : p ≤ 31) : shr .i64 (x : Int) (p : Int) = ((x / 2 ^ p : Nat) : Int) := by
  unfold shr
  rw [Int.toNat_natCast, Nat.min_eq_left (by simp [IntKind.bits]; omega)]
  simp
theorem one_bit (x p : Nat) (hp : p ≤ 31) (hx : x ≤ 4294967295) : Go.bits .and .i64 (shr .i64 (x : Int) (p : Int)) 1 = ((x / 2 ^ p % 2 : Nat) : Int) := by
  rw [shr_nat x p hp, and_one _ (Nat.le_trans (Nat.div_le_self _ _) hx)]
def bitsIn (x : Nat) : Nat → Nat → List Int → List Int
  | 0, _, L => L
  | d + 1, p, L => bitsIn x d (p + 1) (L.set (3 + p) (wrap64 (L.getD (3 + p) 0 + ((x / 2 ^ p % 2 : Nat) : Int))))
theorem bitsIn_len (x : Nat) : ∀ (d p : Nat) (L : List Int), (bitsIn x d p L).length = L.length
  | 0, _, L => rfl
  | d + 1, p, L => by rw [bitsIn, bitsIn_len x d, List.length_set]
theorem spec_i (x : Nat) (hx : x ≤ 4294967295) : ∀ (d p k : Nat) (L : List Int), p + d = 32 → d + 50 < k → spec_MapCount.i k (x : Int) L p = some (bitsIn x d p L)
  | 0, p, k, L, h1, h2 => by
    obtain ⟨k, rfl⟩ := sucK h2
    rw [spec_MapCount.i, if_neg (by omega)]
    rfl
  | d + 1, p, k, L, h1, h2 => by
    obtain ⟨k, rfl⟩ := sucK h2
    have hb : spec_l04Bit.f k (x : Int) (p : Int) = some ((x / 2 ^ p % 2 : Nat) : Int) := by
      unfold spec_l04Bit.f
      exact bit_l0 p (by omega) p 0 k x (by omega) (by omega) hx
    rw [spec_MapCount.i, if_pos (by omega), hb, Option.bind_some, spec_i x hx d (p + 1) k _ (by omega) (by omega)]
    rfl
theorem impl_i (x : Nat) (hx : x ≤ 4294967295) : ∀ (d p k : Nat) (L : List Int), p + d = 32 → d < k → impl_MapCount.i k (x : Int) L p = some (bitsIn x d p L)
  | 0, p, k, L, h1, h2 => by
    obtain ⟨k, rfl⟩ := sucK h2
    rw [impl_MapCount.i, if_neg (by omega)]
    rfl
  | d + 1, p, k, L, h1, h2 => by
    obtain ⟨k, rfl⟩ := sucK h2
    rw [impl_MapCount.i, if_pos (by omega), one_bit x p (by omega) hx, impl_i x hx d (p + 1) k _ (by omega) (by omega)]
    rfl
def first1 (x : Int) (L : List Int) : List Int := if x = 0 then L.set 1 (wrap64 (L.getD 1 0 + 1)) else L.set 2 (wrap64 (L.getD 2 0 + 1))
def countIn : List Int → List Int → List Int
  | [], L => L
  | x :: l, L => countIn l (bitsIn x.toNat 32 0 (first1 x L))
theorem countIn_len : ∀ (l L : List Int), (countIn l L).length = L.length
  | [], L => rfl
  | x :: l, L => by
    rw [countIn, countIn_len l, bitsIn_len, first1]
    split <;> rw [List.length_set]
theorem spec_o (l : List Int) (hw : ∀ x ∈ l, 0 ≤ x ∧ x ≤ 4294967295) : ∀ (d j k : Nat) (L : List Int), j + d = l.length → d + 100 < k → spec_MapCount.o k l L j = some (countIn (l.drop j) L)
  | 0, j, k, L, h1, h2 => by
    obtain ⟨k, rfl⟩ := sucK h2
    rw [spec_MapCount.o, if_neg (by omega), List.drop_eq_nil_of_le (by omega)]
    rfl
  | d + 1, j, k, L, h1, h2 => by
    obtain ⟨k, rfl⟩ := sucK h2
    have hj : j < l.length := by omega
    have hx := hw _ (List.getElem_mem hj)
    rw [spec_MapCount.o, if_pos hj, rd_some hj, List.drop_eq_getElem_cons hj]
    generalize l[j] = x at hx
    obtain ⟨n, rfl⟩ := Int.eq_ofNat_of_zero_le hx.1
    rw [spec_i n (by omega) 32 0 k _ (by omega) (by omega), Option.bind_some, spec_o l hw d (j + 1) k _ (by omega) (by omega)]
    rfl
theorem impl_o (l : List Int) (hw : ∀ x ∈ l, 0 ≤ x ∧ x ≤ 4294967295) : ∀ (d j k : Nat) (L : List Int), j + d = l.length → d + 100 < k → impl_MapCount.o k l L j = some (countIn (l.drop j) L)
  | 0, j, k, L, h1, h2 => by
    obtain ⟨k, rfl⟩ := sucK h2
    rw [impl_MapCount.o, if_neg (by omega), List.drop_eq_nil_of_le (by omega)]
    rfl
  | d + 1, j, k, L, h1, h2 => by
    obtain ⟨k, rfl⟩ := sucK h2
    have hj : j < l.length := by omega
    have hx := hw _ (List.getElem_mem hj)
    rw [impl_MapCount.o, if_pos hj, rd_some hj, List.drop_eq_getElem_cons hj]
    generalize l[j] = x at hx
    obtain ⟨n, rfl⟩ := Int.eq_ofNat_of_zero_le hx.1
    rw [impl_i n (by omega) 32 0 k _ (by omega) (by omega), Option.bind_some, impl_o l hw d (j + 1) k _ (by omega) (by omega)]
    rfl
/-- what MapCount answers -/
def counts (l : List Int) : List Int × Int := if impl_mapRight.f l = some true then (countIn l ((l.length : Int) :: List.replicate 34 0), 0) else (List.replicate 35 0, 7)
theorem counts_len (l : List Int) : (counts l).1.length = 35 := by
  unfold counts
  split
  · simp [countIn_len]
  · simp
theorem right_is (l : List Int) : impl_mapRight.f l = some true ∨ impl_mapRight.f l = some false := by
  unfold impl_mapRight.f
  cases decide (64 ≤ l.length ∧ l.length ≤ 2048 ∧ ¬ impl_mapRight.bad l ∧ rd l 0 = 1 ∧ rd l 1 = 1)
  · exact Or.inr rfl
  · exact Or.inl rfl
theorem specCount_f (l : List Int) (k : Nat) (hk : 5000 < k) : spec_MapCount.f k l = some (counts l) := by
  unfold spec_MapCount.f counts
  rw [right_f l k (by omega)]
  rcases right_is l with h | h
  · have hw := right_words h
    have := spec_o l hw.2.2 l.length 0 k ((l.length : Int) :: List.replicate 34 0) (by omega) (by omega)
    rw [List.drop_zero] at this
    rw [if_pos h, h, Option.bind_some, if_pos rfl, this]
    rfl
  · rw [if_neg (by rw [h]; simp), h, Option.bind_some, if_neg (by decide)]
theorem implCount_f (l : List Int) (k : Nat) (hk : 5000 < k) : impl_MapCount.f k l = some (counts l) := by
  unfold impl_MapCount.f counts
  rcases right_is l with h | h
  · have hw := right_words h
    have := impl_o l hw.2.2 l.length 0 k ((l.length : Int) :: List.replicate 34 0) (by omega) (by omega)
    rw [List.drop_zero] at this
    rw [if_pos h, h, Option.bind_some, if_pos rfl, this]
    rfl
  · rw [if_neg (by rw [h]; simp), h, Option.bind_some, if_neg (by decide)]
theorem FnExactMapCount : laws_FnExactMapCount.Pure := by
  intro l0 _
  refine ⟨l0.length + 5001, fun hn => ⟨l0, (counts l0).1, (counts l0).2, l0, (counts l0).1, l0, toIntS_f l0 _ (by omega) (by omega), counts_len l0, specCount_f l0 _ (by omega), toIntS_f l0 _ (by omega) (by omega), counts_len l0, implCount_f l0 _ (by omega), if_pos rfl, toIntS_f l0 _ (by omega) (by omega), ?_⟩⟩
  rw [eqIntS_f l0 l0 _ (by omega) (by omega)]
  simp

end Go.Proofs.Ytjhaofdnlnbajaa.Pure
