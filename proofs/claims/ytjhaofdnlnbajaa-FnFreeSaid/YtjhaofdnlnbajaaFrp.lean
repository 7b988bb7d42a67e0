/- FnFree: the plain part: what MapCount, MapFree and MapPlane answer about the drawn words. -/
import Derived.Test.YtjhaofdnlnbajaaFrw
import Derived.OpenShut
import Derived.Laws.BitsLemmas
namespace Go.Proofs.Ytjhaofdnlnbajaa.PureFree
open Go.RowKit Go.Proofs.YtjhaofdnlnbajaaW.PrintWords Go.Proofs.YtjhaofdnlnbajaaW.PrintLast Go.Proofs.YtjhaofdnlnbajaaW.PrintMore Go.Proofs.YtjhaofdnlnbajaaW Go.Proofs.YtjhaofdnlnbajaaW.PrintHand Go.Proofs.YtjhaofdnlnbajaaW.PrintHx Go.Proofs.Ytjhaofdnlnbajaa.PFnFree
set_option linter.unusedVariables false
set_option linter.unusedSimpArgs false
theorem w64 {x : Int} (h0 : -9223372036854775808 ≤ x) (h1 : x ≤ 9223372036854775807) : wrap64 x = x := by unfold wrap64; omega
theorem w64n {n : Nat} (h : n < 9223372036854775807) : wrap64 ((n : Int) + 1) = ((n + 1 : Nat) : Int) := by unfold wrap64; omega
theorem sucK {n k : Nat} (h : n < k) : ∃ m, k = m + 1 := ⟨k - 1, by omega⟩
theorem rdN (xs : List Int) (i : Nat) : rd xs (i : Int) = xs.getD i 0 := by simp [rd]
theorem rd_some {xs : List Int} {i : Nat} (h : i < xs.length) : rd xs (i : Int) = xs[i] := by rw [rdN, List.getD_eq_getElem?_getD, List.getElem?_eq_getElem h]; rfl

theorem within_f (a b c : Int) : impl_within.f a b c = some (decide (b ≤ a ∧ a ≤ c)) := impl_mapRight.hW a b c
theorem right_words {l : List Int} (h : impl_mapRight.f l = some true) : 64 ≤ l.length ∧ l.length ≤ 2048 ∧ ∀ x ∈ l, 0 ≤ x ∧ x ≤ 4294967295 := by
  have h := of_decide_eq_true (Option.some.inj h)
  refine ⟨h.1, h.2.1, fun x hx => ?_⟩
  apply Decidable.byContradiction
  intro hc
  exact h.2.2.1 ⟨x, hx, hc⟩

/-- w without bit p -/
def clr (w : Int) (p : Nat) : Int := w - (w / ((2 ^ p : Nat) : Int) % 2) * ((2 ^ p : Nat) : Int)
theorem pow31 {p : Nat} (hp : p ≤ 31) : 2 ^ p ≤ 2147483648 := by
  have := Nat.pow_le_pow_right (show 0 < 2 by omega) hp
  simpa using this
theorem shl_one (p : Nat) (hp : p ≤ 31) : shl .i64 1 (p : Int) = ((2 ^ p : Nat) : Int) := by
  unfold shl
  have h := pow31 hp
  rw [Int.toNat_natCast, Nat.min_eq_left (by simp [IntKind.bits]; omega), IntKind.wrap_i64, Int.one_mul]
  have e : ((2 : Int) ^ p) = ((2 ^ p : Nat) : Int) := by simp
  rw [e]
  generalize 2 ^ p = q at h ⊢
  omega
theorem split_bit (x p : Nat) : x = 2 ^ (p + 1) * (x / 2 ^ (p + 1)) + (x / 2 ^ p % 2 * 2 ^ p + x % 2 ^ p) := by
  have h1 := Nat.div_add_mod x (2 ^ p)
  have h2 := Nat.div_add_mod (x / 2 ^ p) 2
  rw [Nat.div_div_eq_div_mul, ← Nat.pow_succ] at h2
  have h3 : x = 2 ^ p * (2 * (x / 2 ^ (p + 1)) + x / 2 ^ p % 2) + x % 2 ^ p := by rw [h2]; omega
  have h4 : 2 ^ (p + 1) = 2 ^ p * 2 := Nat.pow_succ ..
  rw [Nat.mul_add, ← Nat.mul_assoc, ← h4, Nat.mul_comm (2 ^ p) (x / 2 ^ p % 2), Nat.add_assoc] at h3
  exact h3
theorem or_clr (x p : Nat) (h : x / 2 ^ p % 2 = 0) : x ||| 2 ^ p = x + 2 ^ p := by
  have e := split_bit x p
  rw [h, Nat.zero_mul, Nat.zero_add] at e
  have hc : x % 2 ^ p < 2 ^ p := Nat.mod_lt _ (Nat.two_pow_pos p)
  generalize x / 2 ^ (p + 1) = a at e
  generalize x % 2 ^ p = c at e hc
  have hs : 2 ^ (p + 1) = 2 ^ p * 2 := Nat.pow_succ ..
  have hc' : c < 2 ^ (p + 1) := by omega
  have hd : 2 ^ p + c < 2 ^ (p + 1) := by omega
  have e1 := Nat.two_pow_add_eq_or_of_lt hc' a
  have e2 := Nat.two_pow_add_eq_or_of_lt hc 1
  have e3 := Nat.two_pow_add_eq_or_of_lt hd a
  rw [Nat.mul_one] at e2
  subst e
  rw [e1, Nat.or_assoc, Nat.or_comm c, ← e2, ← e3, ← e1]
  omega
theorem ofInt_nat (x : Nat) : BitVec.ofInt 64 (x : Int) = BitVec.ofNat 64 x := by
  apply BitVec.eq_of_toNat_eq
  simp
theorem ofInt_wrap (n : Int) : BitVec.ofInt 64 (IntKind.i64.wrap n) = BitVec.ofInt 64 n := by
  apply BitVec.eq_of_toNat_eq
  rw [BitVec.toNat_ofInt, BitVec.toNat_ofInt, IntKind.wrap_i64]
  congr 1
  omega
theorem or_idem (x y : Int) : Go.bits .or .i64 (Go.bits .or .i64 x y) y = Go.bits .or .i64 x y := by
  have h : BitVec.ofInt 64 (Go.bits .or .i64 x y) = BitVec.ofInt 64 x ||| BitVec.ofInt 64 y := by
    show BitVec.ofInt 64 (IntKind.i64.wrap (((BitVec.ofInt 64 x ||| BitVec.ofInt 64 y).toNat : Nat) : Int)) = _
    rw [ofInt_wrap, ofInt_nat, BitVec.ofNat_toNat]
    simp
  show IntKind.i64.wrap (((BitVec.ofInt 64 (Go.bits .or .i64 x y) ||| BitVec.ofInt 64 y).toNat : Nat) : Int) = IntKind.i64.wrap (((BitVec.ofInt 64 x ||| BitVec.ofInt 64 y).toNat : Nat) : Int)
  rw [h, BitVec.or_assoc, BitVec.or_self]
theorem bits_or (x p : Nat) (hp : p ≤ 31) (hx : x ≤ 4294967295) (h : x / 2 ^ p % 2 = 0) : Go.bits .or .i64 (x : Int) ((2 ^ p : Nat) : Int) = ((x + 2 ^ p : Nat) : Int) := by
  have hw := pow31 hp
  show IntKind.i64.wrap (((BitVec.ofInt 64 (x : Int) ||| BitVec.ofInt 64 ((2 ^ p : Nat) : Int)).toNat : Nat) : Int) = _
  rw [ofInt_nat, ofInt_nat, BitVec.toNat_or, BitVec.toNat_ofNat, BitVec.toNat_ofNat, Nat.mod_eq_of_lt (by omega), Nat.mod_eq_of_lt (by omega), or_clr x p h, IntKind.wrap_i64]
  generalize 2 ^ p = q at hw ⊢
  omega
theorem bv_andnot (X M : BitVec 64) (h : X &&& M = 0#64) : (X ||| M) &&& ~~~M = X ∧ X &&& ~~~M = X := by
  have hb : ∀ i (hi : i < 64), (X.getLsbD i && M.getLsbD i) = false := fun i hi => by
    have := congrArg (fun v : BitVec 64 => v.getLsbD i) h
    simpa using this
  constructor
  · apply BitVec.eq_of_getLsbD_eq
    intro i hi
    have := hb i hi
    simp only [BitVec.getLsbD_and, BitVec.getLsbD_or, BitVec.getLsbD_not, decide_eq_true hi, Bool.true_and]
    revert this
    cases X.getLsbD i <;> cases M.getLsbD i <;> simp
  · apply BitVec.eq_of_getLsbD_eq
    intro i hi
    have := hb i hi
    simp only [BitVec.getLsbD_and, BitVec.getLsbD_not, decide_eq_true hi, Bool.true_and]
    revert this
    cases X.getLsbD i <;> cases M.getLsbD i <;> simp
theorem clr_nat (w p : Nat) : clr (w : Int) p = ((w - w / 2 ^ p % 2 * 2 ^ p : Nat) : Int) ∧ (w - w / 2 ^ p % 2 * 2 ^ p) / 2 ^ p % 2 = 0 ∧ w = (w - w / 2 ^ p % 2 * 2 ^ p) + w / 2 ^ p % 2 * 2 ^ p := by
  have e := split_bit w p
  have hc : w % 2 ^ p < 2 ^ p := Nat.mod_lt _ (Nat.two_pow_pos p)
  have hle : w / 2 ^ p % 2 * 2 ^ p ≤ w := by
    generalize w / 2 ^ p % 2 * 2 ^ p = z at e
    omega
  refine ⟨?_, ?_, by omega⟩
  · unfold clr
    have : ((w : Int) / ((2 ^ p : Nat) : Int) % 2) * ((2 ^ p : Nat) : Int) = ((w / 2 ^ p % 2 * 2 ^ p : Nat) : Int) := by simp
    rw [this]
    omega
  · have e2 : w - w / 2 ^ p % 2 * 2 ^ p = 2 ^ p * (2 * (w / 2 ^ (p + 1))) + w % 2 ^ p := by
      have hs : 2 ^ (p + 1) = 2 ^ p * 2 := Nat.pow_succ ..
      rw [← Nat.mul_assoc, ← hs]
      generalize w / 2 ^ p % 2 * 2 ^ p = z at e hle ⊢
      omega
    rw [e2, Nat.mul_add_div (Nat.two_pow_pos p), Nat.div_eq_of_lt hc]
    omega
theorem and_clr (x p : Nat) (h : x / 2 ^ p % 2 = 0) : x &&& 2 ^ p = 0 := by
  apply Nat.eq_of_testBit_eq
  intro i
  rw [Nat.testBit_and, Nat.testBit_two_pow, Nat.zero_testBit]
  by_cases hi : p = i
  · subst hi
    rw [Nat.testBit_eq_decide_div_mod_eq, h]
    simp
  · simp [hi]
theorem bits_andnot (w p : Nat) (hp : p ≤ 31) (hw : w ≤ 4294967295) : Go.bits .andNot .i64 (w : Int) ((2 ^ p : Nat) : Int) = clr (w : Int) p := by
  obtain ⟨h1, h2, h3⟩ := clr_nat w p
  have hq := pow31 hp
  rw [h1]
  generalize hx : w - w / 2 ^ p % 2 * 2 ^ p = x at h1 h2 h3
  have hxw : x ≤ w := by omega
  have hz : BitVec.ofNat 64 x &&& BitVec.ofNat 64 (2 ^ p) = 0#64 := by
    apply BitVec.eq_of_toNat_eq
    rw [BitVec.toNat_and, BitVec.toNat_ofNat, BitVec.toNat_ofNat, Nat.mod_eq_of_lt (by omega), Nat.mod_eq_of_lt (by omega), and_clr x p h2]
    rfl
  obtain ⟨k1, k2⟩ := bv_andnot _ _ hz
  show IntKind.i64.wrap (((BitVec.ofInt 64 (w : Int) &&& ~~~BitVec.ofInt 64 ((2 ^ p : Nat) : Int)).toNat : Nat) : Int) = _
  rw [ofInt_nat, ofInt_nat]
  have e : BitVec.ofNat 64 w &&& ~~~BitVec.ofNat 64 (2 ^ p) = BitVec.ofNat 64 x := by
    rcases (by omega : w / 2 ^ p % 2 = 0 ∨ w / 2 ^ p % 2 = 1) with hb | hb
    · rw [hb] at h3
      rw [show w = x by omega]
      exact k2
    · rw [hb, Nat.one_mul] at h3
      have : BitVec.ofNat 64 w = BitVec.ofNat 64 x ||| BitVec.ofNat 64 (2 ^ p) := by
        apply BitVec.eq_of_toNat_eq
        rw [BitVec.toNat_or, BitVec.toNat_ofNat, BitVec.toNat_ofNat, BitVec.toNat_ofNat, Nat.mod_eq_of_lt (by omega), Nat.mod_eq_of_lt (by omega), Nat.mod_eq_of_lt (by omega), or_clr x p h2]
        exact h3
      rw [this]
      exact k1
  rw [e, BitVec.toNat_ofNat, Nat.mod_eq_of_lt (by omega), IntKind.wrap_i64]
  omega

/-- a draw: a number below n, the source goes on -/
theorem src_N (b : List Int) (hb : b.length ≤ 1048576) (i x n : Int) (hi : 0 ≤ i ∧ i ≤ b.length) (hn : 1 < n) (hn2 : n ≤ 4294967296) :
    ∃ v i' x', spec_l01Src_N.f b i x n = some (v, i', x') ∧ (0 ≤ v ∧ v < n) ∧ (0 ≤ i' ∧ i' ≤ b.length) := by
  have hn3 : IntKind.u64.wrap n = n := by rw [IntKind.wrap_u64]; omega
  have key : ∀ (y : Int) (i' : Int), (0 ≤ i' ∧ i' ≤ b.length) → ∃ v i'' x', (if n ≤ 1 then (some (0, i', IntKind.u64.wrap ((IntKind.u64.wrap (y * 6364136223846793005)) + 1442695040888963407))) else (if (IntKind.u64.wrap n) = 0 then (none) else (some (wrap64 (Int.tmod ((IntKind.u64.wrap ((IntKind.u64.wrap (y * 6364136223846793005)) + 1442695040888963407)) / 8589934592) (IntKind.u64.wrap n)), i', IntKind.u64.wrap ((IntKind.u64.wrap (y * 6364136223846793005)) + 1442695040888963407))))) = some (v, i'', x') ∧ (0 ≤ v ∧ v < n) ∧ (0 ≤ i'' ∧ i'' ≤ b.length) := by
    intro y i' hi'
    rw [if_neg (by omega), hn3, if_neg (by omega)]
    generalize hz : IntKind.u64.wrap (IntKind.u64.wrap (y * 6364136223846793005) + 1442695040888963407) = z
    have hz0 : 0 ≤ z := by rw [← hz, IntKind.wrap_u64]; omega
    have e : Int.tmod (z / 8589934592) n = (z / 8589934592) % n := Int.tmod_eq_emod_of_nonneg (by omega)
    have h1 := Int.emod_nonneg (z / 8589934592) (show n ≠ 0 by omega)
    have h2 := Int.emod_lt_of_pos (z / 8589934592) (show 0 < n by omega)
    rw [e, w64 (by omega) (by omega)]
    exact ⟨_, _, _, rfl, ⟨h1, h2⟩, hi'⟩
  unfold spec_l01Src_N.f
  by_cases h : i < (b.length : Int)
  · rw [if_pos h, if_pos hi.1, w64 (x := i + 1) (by omega) (by omega)]
    exact key _ _ (by omega)
  · rw [if_neg h]
    exact key _ _ hi

theorem and_one (y : Nat) (hy : y ≤ 4294967295) : Go.bits .and .i64 (y : Int) 1 = ((y % 2 : Nat) : Int) := by
  show IntKind.i64.wrap (((BitVec.ofInt 64 (y : Int) &&& BitVec.ofInt 64 ((1 : Nat) : Int)).toNat : Nat) : Int) = _
  rw [ofInt_nat, ofInt_nat, BitVec.toNat_and, BitVec.toNat_ofNat, BitVec.toNat_ofNat, Nat.mod_eq_of_lt (by omega), Nat.mod_eq_of_lt (by omega), Nat.and_one_is_mod, IntKind.wrap_i64]
  omega
theorem shr_nat (x p : Nat) (hp : p ≤ 31) : shr .i64 (x : Int) (p : Int) = ((x / 2 ^ p : Nat) : Int) := by
  unfold shr
  rw [Int.toNat_natCast, Nat.min_eq_left (by simp [IntKind.bits]; omega)]
  simp
theorem one_bit (x p : Nat) (hp : p ≤ 31) (hx : x ≤ 4294967295) : Go.bits .and .i64 (shr .i64 (x : Int) (p : Int)) 1 = ((x / 2 ^ p % 2 : Nat) : Int) := by
  rw [shr_nat x p hp, and_one _ (Nat.le_trans (Nat.div_le_self _ _) hx)]
def bitsIn (x : Nat) : Nat → Nat → List Int → List Int
  | 0, _, L => L
  | d + 1, p, L => bitsIn x d (p + 1) (L.set (3 + p) (wrap64 (L.getD (3 + p) 0 + ((x / 2 ^ p % 2 : Nat) : Int))))
theorem bitsIn_len (x : Nat) : ∀ (d p : Nat) (L : List Int), (bitsIn x d p L).length = L.length
  | 0, _, L => rfl
  | d + 1, p, L => by rw [bitsIn, bitsIn_len x d, List.length_set]
theorem impl_i (x : Nat) (hx : x ≤ 4294967295) : ∀ (d p k : Nat) (L : List Int), p + d = 32 → d < k → impl_MapCount.i k (x : Int) L p = some (bitsIn x d p L)
  | 0, p, k, L, h1, h2 => by
    obtain ⟨k, rfl⟩ := sucK h2
    rw [impl_MapCount.i, if_neg (by omega)]
    rfl
  | d + 1, p, k, L, h1, h2 => by
    obtain ⟨k, rfl⟩ := sucK h2
    rw [impl_MapCount.i, if_pos (by omega), one_bit x p (by omega) hx, impl_i x hx d (p + 1) k _ (by omega) (by omega)]
    rfl
def first1 (x : Int) (L : List Int) : List Int := if x = 0 then L.set 1 (wrap64 (L.getD 1 0 + 1)) else L.set 2 (wrap64 (L.getD 2 0 + 1))
def countIn : List Int → List Int → List Int
  | [], L => L
  | x :: l, L => countIn l (bitsIn x.toNat 32 0 (first1 x L))
theorem countIn_len : ∀ (l L : List Int), (countIn l L).length = L.length
  | [], L => rfl
  | x :: l, L => by
    rw [countIn, countIn_len l, bitsIn_len, first1]
    split <;> rw [List.length_set]
theorem impl_o (l : List Int) (hw : ∀ x ∈ l, 0 ≤ x ∧ x ≤ 4294967295) : ∀ (d j k : Nat) (L : List Int), j + d = l.length → d + 100 < k → impl_MapCount.o k l L j = some (countIn (l.drop j) L)
  | 0, j, k, L, h1, h2 => by
    obtain ⟨k, rfl⟩ := sucK h2
    rw [impl_MapCount.o, if_neg (by omega), List.drop_eq_nil_of_le (by omega)]
    rfl
  | d + 1, j, k, L, h1, h2 => by
    obtain ⟨k, rfl⟩ := sucK h2
    have hj : j < l.length := by omega
    have hx := hw _ (List.getElem_mem hj)
    rw [impl_MapCount.o, if_pos hj, rd_some hj, List.drop_eq_getElem_cons hj]
    generalize l[j] = x at hx
    obtain ⟨n, rfl⟩ := Int.eq_ofNat_of_zero_le hx.1
    rw [impl_i n (by omega) 32 0 k _ (by omega) (by omega), Option.bind_some, impl_o l hw d (j + 1) k _ (by omega) (by omega)]
    rfl
/-- what MapCount answers -/
def counts (l : List Int) : List Int × Int := if impl_mapRight.f l = some true then (countIn l ((l.length : Int) :: List.replicate 34 0), 0) else (List.replicate 35 0, 7)
theorem right_is (l : List Int) : impl_mapRight.f l = some true ∨ impl_mapRight.f l = some false := by
  unfold impl_mapRight.f
  cases decide (64 ≤ l.length ∧ l.length ≤ 2048 ∧ ¬ impl_mapRight.bad l ∧ rd l 0 = 1 ∧ rd l 1 = 1)
  · exact Or.inr rfl
  · exact Or.inl rfl
theorem implCount_f (l : List Int) (k : Nat) (hk : 5000 < k) : impl_MapCount.f k l = some (counts l) := by
  unfold impl_MapCount.f counts
  rcases right_is l with h | h
  · have hw := right_words h
    have := impl_o l hw.2.2 l.length 0 k ((l.length : Int) :: List.replicate 34 0) (by omega) (by omega)
    rw [List.drop_zero] at this
    rw [if_pos h, h, Option.bind_some, if_pos rfl, this]
    rfl
  · rw [if_neg (by rw [h]; simp), h, Option.bind_some, if_neg (by decide)]
/-- places of a list turned one after the other -/
def turn (f : Int → Int) (set : List Int) (acc : List Int) : List Int := set.foldl (fun a b => a.set b.toNat (f (rd a b))) acc
theorem turn_len (f : Int → Int) : ∀ (set acc : List Int), (turn f set acc).length = acc.length
  | [], acc => rfl
  | b :: set, acc => by
    show (turn f set (acc.set b.toNat (f (rd acc b)))).length = _
    rw [turn_len f set, List.length_set]
theorem turn_get (f : Int → Int) (hf : ∀ x, f (f x) = f x) : ∀ (set acc : List Int), (∀ b ∈ set, 0 ≤ b) → ∀ i (hi : i < acc.length), (turn f set acc)[i]'(by rw [turn_len]; exact hi) = if (i : Int) ∈ set then f acc[i] else acc[i]
  | [], acc, hb, i, hi => by simp [turn]
  | b :: set, acc, hb, i, hi => by
    have h0 : 0 ≤ b := hb b (List.mem_cons_self ..)
    have ih := turn_get f hf set (acc.set b.toNat (f (rd acc b))) (fun c hc => hb c (List.mem_cons_of_mem _ hc)) i (by rw [List.length_set]; exact hi)
    refine Eq.trans ih ?_
    by_cases hib : (i : Int) = b
    · have e : b.toNat = i := by omega
      subst hib
      have e2 : rd acc (i : Int) = acc[i] := rd_some hi
      simp only [Int.toNat_natCast, List.getElem_set_self, e2, hf, List.mem_cons, true_or, if_true, ite_self]
    · have e : b.toNat ≠ i := by omega
      rw [List.getElem_set_ne e]
      simp only [List.mem_cons, hib, false_or]
def Wild (n : Nat) (set : List Int) : Prop := ∃ b ∈ set, ¬ (2 ≤ b ∧ b < (n : Int))
instance (n : Nat) (set : List Int) : Decidable (Wild n set) := by unfold Wild; infer_instance
theorem wild_cons (n : Nat) (b : Int) (set : List Int) : Wild n (b :: set) ↔ ¬ (2 ≤ b ∧ b < (n : Int)) ∨ Wild n set := by
  unfold Wild
  simp only [List.mem_cons, exists_eq_or_imp]
theorem impl_l0 (l set : List Int) (p : Nat) (hp : p ≤ 31) : ∀ (d i K : Nat) (x8 : List Int), x8.length ≤ 2048 → i + d = x8.length → impl_MapPlane.l0 (K + d + 1) l (p : Int) set x8 (i : Int) = impl_MapPlane.l1 K l (p : Int) (x8.take i ++ (x8.drop i).map (fun x => Go.bits .andNot .i64 x ((2 ^ p : Nat) : Int))) set (set.length : Int) 0
  | 0, i, K, x8, h0, h1 => by
    rw [impl_MapPlane.l0.eq_2, if_neg (by omega), List.drop_eq_nil_of_le (by omega), List.take_of_length_le (by omega), List.map_nil, List.append_nil]
  | d + 1, i, K, x8, h0, h1 => by
    have hi : i < x8.length := by omega
    rw [show K + (d + 1) + 1 = (K + d + 1) + 1 by omega, impl_MapPlane.l0.eq_2, if_pos (by omega), if_pos (by omega), if_pos (by omega), w64n (by omega), impl_l0 l set p hp d (i + 1) K _ (by simpa using h0) (by simpa using (by omega)), shl_one p hp, Int.toNat_natCast, rd_some hi, List.take_succ_eq_append_getElem (by simpa using hi), List.getElem_set_self, List.take_set_of_le (Nat.le_refl i), List.drop_set_of_lt (by omega), List.drop_eq_getElem_cons hi, List.map_cons, List.append_assoc]
    rfl
theorem impl_l1 (l : List Int) (hl : l.length ≤ 2048) (h64 : 64 ≤ l.length) (p : Nat) (hp : p ≤ 31) (set : List Int) (hs : set.length < 9223372036854775807) : ∀ (d i k : Nat) (x8 : List Int), i + d = set.length → x8.length = l.length → d < k → impl_MapPlane.l1 k l (p : Int) x8 set (set.length : Int) (i : Int) = some (if Wild l.length (set.drop i) then ([], 19) else (turn (fun x => Go.bits .or .i64 x ((2 ^ p : Nat) : Int)) (set.drop i) x8, 0))
  | 0, i, k, x8, h1, h2, h3 => by
    obtain ⟨k, rfl⟩ := sucK h3
    rw [impl_MapPlane.l1.eq_2, if_neg (by omega), List.drop_eq_nil_of_le (by omega), if_neg (fun ⟨b, hb, _⟩ => by cases hb)]
    rfl
  | d + 1, i, k, x8, h1, h2, h3 => by
    obtain ⟨k, rfl⟩ := sucK h3
    have hi : i < set.length := by omega
    rw [impl_MapPlane.l1.eq_2, if_pos (by omega), if_pos (by omega), if_pos (by omega), rd_some hi, List.drop_eq_getElem_cons hi, within_f, Option.bind_some, w64 (by omega) (by omega)]
    generalize set[i] = b
    by_cases c1 : 2 ≤ b ∧ b ≤ (l.length : Int) - 1
    · rw [if_pos (decide_eq_true c1), if_pos (by omega), if_pos (by omega), if_pos (by omega), w64n (by omega), impl_l1 l hl h64 p hp set hs d (i + 1) k _ (by omega) (by simpa using h2) (by omega), shl_one p hp]
      have e : Wild l.length (b :: set.drop (i + 1)) ↔ Wild l.length (set.drop (i + 1)) := by
        rw [wild_cons]
        exact ⟨fun h => h.elim (fun h => absurd ⟨by omega, by omega⟩ h) id, Or.inr⟩
      simp only [e]
      rfl
    · rw [if_neg (by simpa using c1), if_pos ((wild_cons _ _ _).2 (Or.inl (by omega)))]
def planeR (l : List Int) (p : Int) (set : List Int) : List Int × Int :=
  if impl_mapRight.f l = some true ∧ 0 ≤ p ∧ p ≤ 31 then (if Wild l.length set then ([], 19) else (turn (fun x => Go.bits .or .i64 x ((2 ^ p.toNat : Nat) : Int)) set (l.take 2 ++ (l.drop 2).map (fun x => Go.bits .andNot .i64 x ((2 ^ p.toNat : Nat) : Int))), 0)) else ([], 7)
theorem right_cases (l : List Int) : impl_mapRight.f l = some true ∨ impl_mapRight.f l = some false := by
  unfold impl_mapRight.f
  rcases Bool.eq_false_or_eq_true (decide (64 ≤ l.length ∧ l.length ≤ 2048 ∧ ¬ impl_mapRight.bad l ∧ rd l 0 = 1 ∧ rd l 1 = 1)) with h | h <;> rw [h] <;> simp
theorem plane_f (l : List Int) (p : Int) (set : List Int) (hs : set.length ≤ 1048576) (k : Nat) (hk : 1100000 < k) : impl_MapPlane.f k l p set = some (planeR l p set) := by
  unfold impl_MapPlane.f planeR
  rcases right_cases l with hr | hr
  · obtain ⟨h64, hl, hw⟩ := right_words hr
    rw [hr, Option.bind_some, if_pos rfl, within_f, Option.bind_some]
    obtain ⟨k, rfl⟩ := sucK hk
    rw [impl_MapPlane.j0.eq_2]
    by_cases hp : 0 ≤ p ∧ p ≤ 31
    · obtain ⟨p, rfl⟩ := Int.eq_ofNat_of_zero_le hp.1
      have hp31 : p ≤ 31 := by omega
      rw [decide_eq_true hp, if_neg (by decide), if_pos ⟨rfl, hp⟩, slices_Clone_int_int.f, Option.bind_some, if_pos (by simp; omega), Option.bind_some, List.nil_append, Int.toNat_natCast]
      have h0 := impl_l0 l set p hp31 (l.length - 2) 2 (k - (l.length - 2) - 1) l hl (by omega)
      have h1 := impl_l1 l hl h64 p hp31 set (by omega) set.length 0 (k - (l.length - 2) - 1) (l.take 2 ++ (l.drop 2).map (fun x => Go.bits .andNot .i64 x ((2 ^ p : Nat) : Int))) (by omega) (by simp; omega) (by omega)
      rw [show k - (l.length - 2) - 1 + (l.length - 2) + 1 = k by omega] at h0
      rw [List.drop_zero] at h1
      refine Eq.trans h0 (Eq.trans h1 ?_)
      rfl
    · rw [decide_eq_false hp, if_pos (show (!false) = true from rfl), if_neg (fun h => hp h.2)]
  · rw [hr, Option.bind_some, if_neg (by decide), if_neg (fun h => by simp at h)]
    obtain ⟨k, rfl⟩ := sucK hk
    rw [impl_MapPlane.j0.eq_2, if_pos rfl]
noncomputable def freeR (l : List Int) (a1 a2 : Int) : List Int × Int × Int := if impl_mapRight.f l = some true ∧ 2 ≤ a1 ∧ a1 < (l.length : Int) ∧ 0 ≤ a2 then mf_res l a1 a2 else ([], 0, 7)
theorem free_f (l : List Int) (a1 a2 : Int) : impl_MapFree.f l a1 a2 = some (freeR l a1 a2) := by
  unfold impl_MapFree.f freeR
  rcases right_cases l with h | h
  · have hw := right_words h
    rw [h, Option.bind_some, w64 (by omega) (by omega)]
    by_cases c : 2 ≤ a1 ∧ a1 < (l.length : Int) ∧ 0 ≤ a2
    · rw [if_pos ⟨rfl, c.1, by omega, c.2.2⟩, if_pos ⟨rfl, c.1, by omega, c.2.2⟩]
    · rw [if_neg (fun h => c ⟨h.2.1, by omega, h.2.2.2⟩), if_neg (fun h => c h.2)]
  · rw [h, Option.bind_some, if_neg (fun h => Bool.noConfusion h.1), if_neg (fun h => Bool.noConfusion (Option.some.inj h.1))]
theorem fr_len (l : List Int) (c : Nat) (hc : 2 ≤ c) (hcm : c < l.length) : (mf_fr l (mf_order c l.length)).length ≤ l.length := by
  refine Nat.le_trans (mf_fr_le _ _) ?_
  unfold mf_order
  simp
  omega

theorem getD_set_self (L : List Int) (i : Nat) (v : Int) (h : i < L.length) : (L.set i v).getD i 0 = v := by simp [List.getD_eq_getElem?_getD, h]
theorem getD_set_ne (L : List Int) (i j : Nat) (v : Int) (h : i ≠ j) : (L.set i v).getD j 0 = L.getD j 0 := by simp [List.getD_eq_getElem?_getD, List.getElem?_set_ne h]
theorem bitsIn_low (x q : Nat) : ∀ (d p : Nat) (L : List Int), q < 3 + p → (bitsIn x d p L).getD q 0 = L.getD q 0
  | 0, _, _, _ => rfl
  | d + 1, p, L, h => by rw [bitsIn, bitsIn_low x q d (p + 1) _ (by omega), getD_set_ne _ _ _ _ (by omega)]
theorem bitsIn_at (x q : Nat) : ∀ (d p : Nat) (L : List Int), p ≤ q → q < p + d → 3 + q < L.length → (bitsIn x d p L).getD (3 + q) 0 = wrap64 (L.getD (3 + q) 0 + ((x / 2 ^ q % 2 : Nat) : Int))
  | 0, _, _, h1, h2, _ => by omega
  | d + 1, p, L, h1, h2, h3 => by
    rw [bitsIn]
    by_cases e : q = p
    · subst e
      rw [bitsIn_low x (3 + q) d (q + 1) _ (by omega), getD_set_self _ _ _ h3]
    · rw [bitsIn_at x q d (p + 1) _ (by omega) (by omega) (by rw [List.length_set]; exact h3), getD_set_ne _ _ _ _ (by omega)]
def isz (x : Int) : Bool := decide (x = 0)
def nz (x : Int) : Bool := decide (¬ x = 0)
def bt (p : Nat) (x : Int) : Bool := decide (Int.tmod (x / 2 ^ min p 64) 2 = 1)
theorem bt_nat (p x : Nat) (hp : p ≤ 31) : bt p (x : Int) = decide (x / 2 ^ p % 2 = 1) := by
  unfold bt
  have e : ((x : Int) / 2 ^ p) = ((x / 2 ^ p : Nat) : Int) := by simp
  rw [Nat.min_eq_left (by omega), e, Int.tmod_eq_emod_of_nonneg (Int.natCast_nonneg _)]
  apply decide_eq_decide.2
  generalize x / 2 ^ p = y
  omega
theorem first1_hi (x : Int) (L : List Int) (q : Nat) : (first1 x L).getD (3 + q) 0 = L.getD (3 + q) 0 := by
  unfold first1
  split <;> exact getD_set_ne _ _ _ _ (by omega)
theorem round_len (x : Int) (L : List Int) (h1 : L.length = 35) : (bitsIn x.toNat 32 0 (first1 x L)).length = 35 := by
  rw [bitsIn_len, first1]
  split <;> rw [List.length_set, h1]
theorem cp_cons (f : Int → Bool) (x : Int) (l : List Int) : ((List.countP f (x :: l) : Nat) : Int) = (if f x = true then 1 else 0) + ((List.countP f l : Nat) : Int) := by
  rw [List.countP_cons]
  split <;> omega
theorem countIn_1 : ∀ (l L : List Int), L.length = 35 → 0 ≤ L.getD 1 0 → L.getD 1 0 + (l.length : Int) ≤ 100000 → (countIn l L).getD 1 0 = L.getD 1 0 + ((l.countP isz : Nat) : Int)
  | [], L, _, _, _ => by simp [countIn]
  | x :: l, L, h1, h2, h3 => by
    have h3' : L.getD 1 0 + ((l.length : Int) + 1) ≤ 100000 := by simpa using h3
    have e : (bitsIn x.toNat 32 0 (first1 x L)).getD 1 0 = L.getD 1 0 + (if isz x = true then 1 else 0) := by
      rw [bitsIn_low _ _ _ _ _ (by omega)]
      unfold first1 isz
      by_cases c : x = 0
      · rw [if_pos c, if_pos (decide_eq_true c), getD_set_self _ _ _ (by omega), w64 (by omega) (by omega)]
      · rw [if_neg c, if_neg (by simpa using c), getD_set_ne _ _ _ _ (by omega), Int.add_zero]
    rw [countIn, countIn_1 l _ (round_len x L h1) (by rw [e]; split <;> omega) (by rw [e]; split <;> omega), e, cp_cons]
    omega
theorem countIn_2 : ∀ (l L : List Int), L.length = 35 → 0 ≤ L.getD 2 0 → L.getD 2 0 + (l.length : Int) ≤ 100000 → (countIn l L).getD 2 0 = L.getD 2 0 + ((l.countP nz : Nat) : Int)
  | [], L, _, _, _ => by simp [countIn]
  | x :: l, L, h1, h2, h3 => by
    have h3' : L.getD 2 0 + ((l.length : Int) + 1) ≤ 100000 := by simpa using h3
    have e : (bitsIn x.toNat 32 0 (first1 x L)).getD 2 0 = L.getD 2 0 + (if nz x = true then 1 else 0) := by
      rw [bitsIn_low _ _ _ _ _ (by omega)]
      unfold first1 nz
      by_cases c : x = 0
      · rw [if_pos c, if_neg (by simpa using c), getD_set_ne _ _ _ _ (by omega), Int.add_zero]
      · rw [if_neg c, if_pos (decide_eq_true c), getD_set_self _ _ _ (by omega), w64 (by omega) (by omega)]
    rw [countIn, countIn_2 l _ (round_len x L h1) (by rw [e]; split <;> omega) (by rw [e]; split <;> omega), e, cp_cons]
    omega
theorem countIn_p (p : Nat) (hp : p ≤ 31) : ∀ (l L : List Int), (∀ x ∈ l, 0 ≤ x ∧ x ≤ 4294967295) → L.length = 35 → 0 ≤ L.getD (3 + p) 0 → L.getD (3 + p) 0 + (l.length : Int) ≤ 100000 → (countIn l L).getD (3 + p) 0 = L.getD (3 + p) 0 + ((l.countP (bt p) : Nat) : Int)
  | [], L, _, _, _, _ => by simp [countIn]
  | x :: l, L, hw, h1, h2, h3 => by
    have h3' : L.getD (3 + p) 0 + ((l.length : Int) + 1) ≤ 100000 := by simpa using h3
    have hx := hw x (List.mem_cons_self ..)
    obtain ⟨n, rfl⟩ := Int.eq_ofNat_of_zero_le hx.1
    have e : (bitsIn ((n : Int)).toNat 32 0 (first1 (n : Int) L)).getD (3 + p) 0 = L.getD (3 + p) 0 + (if bt p (n : Int) = true then 1 else 0) := by
      rw [bitsIn_at _ _ _ _ _ (by omega) (by omega) (by unfold first1; split <;> (rw [List.length_set]; omega)), first1_hi, bt_nat p n hp, Int.toNat_natCast]
      have hb : n / 2 ^ p % 2 < 2 := Nat.mod_lt _ (by omega)
      generalize n / 2 ^ p % 2 = b at hb
      rw [w64 (by omega) (by omega)]
      by_cases c : b = 1
      · rw [if_pos (decide_eq_true c)]; omega
      · rw [if_neg (by simpa using c)]; omega
    rw [countIn, countIn_p p hp l _ (fun y hy => hw y (List.mem_cons_of_mem _ hy)) (round_len _ L h1) (by rw [e]; split <;> omega) (by rw [e]; split <;> omega), e, cp_cons]
    omega
theorem cp_two : ∀ (l : List Int), l.countP isz + l.countP nz = l.length
  | [] => rfl
  | x :: l => by
    have ih := cp_two l
    rw [List.countP_cons, List.countP_cons, List.length_cons]
    by_cases c : x = 0
    · rw [if_pos (by simp [isz, c]), if_neg (by simp [nz, c])]; omega
    · rw [if_neg (by simp [isz, c]), if_pos (by simp [nz, c])]; omega
theorem cp_range (f : Int → Bool) (W : List Int) : ∀ (d a : Nat), a + d ≤ W.length → (List.range' a d).countP (fun b : Nat => f (rd W (b : Int))) = ((W.drop a).take d).countP f
  | 0, a, h => by simp
  | d + 1, a, h => by
    have ha : a < W.length := by omega
    rw [List.range'_succ, List.countP_cons, cp_range f W d (a + 1) (by omega), List.drop_eq_getElem_cons ha, List.take_succ_cons, List.countP_cons, rd_some ha]
/-- the words of a drawn map -/
structure WOk (T : List Int) : Prop where
  lo : 62 ≤ T.length
  hi : T.length ≤ 2046
  in_ : ∀ x ∈ T, 0 ≤ x ∧ x ≤ 4294967295
theorem WOk.right {T : List Int} (h : WOk T) : impl_mapRight.f (1 :: 1 :: T) = some true := by
  unfold impl_mapRight.f
  rw [decide_eq_true]
  have h1 := h.lo
  have h2 := h.hi
  refine ⟨by simp; omega, by simp; omega, ?_, rfl, rfl⟩
  rintro ⟨x, hx, hb⟩
  simp only [List.mem_cons] at hx
  rcases hx with rfl | rfl | hx
  · omega
  · omega
  · exact hb (h.in_ x hx)
theorem WOk.all {T : List Int} (h : WOk T) : ∀ x ∈ (1 :: 1 :: T : List Int), 0 ≤ x ∧ x ≤ 4294967295 := (right_words h.right).2.2
def C0 (l : List Int) : List Int := countIn l ((l.length : Int) :: List.replicate 34 0)
theorem count_f {T : List Int} (h : WOk T) (k : Nat) (hk : 5000 < k) : impl_MapCount.f k (1 :: 1 :: T) = some (C0 (1 :: 1 :: T), 0) := by
  rw [implCount_f _ _ hk, counts, if_pos h.right]
  rfl
theorem C0_len (l : List Int) : (C0 l).length = 35 := by simp [C0, countIn_len]
theorem C0_1 (l : List Int) (h : l.length ≤ 2048) : (C0 l).getD 1 0 = ((l.countP isz : Nat) : Int) := by
  have := countIn_1 l ((l.length : Int) :: List.replicate 34 0) (by simp) (by simp) (by simp; omega)
  rw [C0, this]; simp
theorem C0_2 (l : List Int) (h : l.length ≤ 2048) : (C0 l).getD 2 0 = ((l.countP nz : Nat) : Int) := by
  have := countIn_2 l ((l.length : Int) :: List.replicate 34 0) (by simp) (by simp) (by simp; omega)
  rw [C0, this]; simp
theorem zero_at (n : Int) (p : Nat) (hp : p ≤ 31) : ((n :: List.replicate 34 0 : List Int)).getD (3 + p) 0 = 0 := by
  rw [List.getD_eq_getElem?_getD, show 3 + p = (2 + p) + 1 by omega, List.getElem?_cons_succ, List.getElem?_replicate, if_pos (by omega)]
  rfl
theorem C0_p (l : List Int) (h : l.length ≤ 2048) (hw : ∀ x ∈ l, 0 ≤ x ∧ x ≤ 4294967295) (p : Nat) (hp : p ≤ 31) : (C0 l).getD (3 + p) 0 = ((l.countP (bt p) : Nat) : Int) := by
  have z := zero_at (l.length : Int) p hp
  have := countIn_p p hp l ((l.length : Int) :: List.replicate 34 0) hw (by simp) (by rw [z]; omega) (by rw [z]; omega)
  rw [C0, this, z, Int.zero_add]
/-- bit 0 of the two first words -/
def fx (p : Nat) : Nat := if p = 0 then 2 else 0
theorem bt_one (p : Nat) (hp : p ≤ 31) : bt p 1 = decide (p = 0) := by
  have := bt_nat p 1 hp
  rw [show ((1 : Nat) : Int) = 1 from rfl] at this
  rw [this]
  apply decide_eq_decide.2
  by_cases c : p = 0
  · subst c; simp
  · have : 1 < 2 ^ p := Nat.one_lt_two_pow c
    rw [Nat.div_eq_of_lt this]
    omega
theorem cp_ones (p : Nat) (hp : p ≤ 31) (T : List Int) : (1 :: 1 :: T : List Int).countP (bt p) = T.countP (bt p) + fx p := by
  rw [List.countP_cons, List.countP_cons, bt_one p hp, fx]
  by_cases c : p = 0
  · rw [if_pos (by simp [c]), if_pos c]
  · rw [if_neg (by simp [c]), if_neg c]
theorem setP_len {T : List Int} (h : WOk T) (p : Nat) (i : Nat) (hi : i = (1 :: 1 :: T : List Int).length) : (setP (1 :: 1 :: T) (p : Int) i).length = T.countP (bt p) := by
  subst hi
  unfold setP
  rw [List.length_map, ← List.countP_eq_length_filter]
  have := cp_range (bt p) (1 :: 1 :: T) T.length 2 (by simp; omega)
  have e : (List.drop 2 (1 :: 1 :: T : List Int)).take T.length = T := by simp
  rw [e] at this
  rw [← this]
  rfl
theorem setP_in {T : List Int} (p : Int) (i : Nat) : ∀ b ∈ setP (1 :: 1 :: T) p i, 2 ≤ b ∧ b < 2 + ((i - 2 : Nat) : Int) := by
  intro b hb
  unfold setP at hb
  rw [List.mem_map] at hb
  obtain ⟨q, hq, rfl⟩ := hb
  rw [List.mem_filter, List.mem_range'_1] at hq
  omega
theorem setP_mem {T : List Int} (p : Nat) (i q : Nat) (hq : 2 ≤ q ∧ q < i) : ((q : Int) ∈ setP (1 :: 1 :: T) (p : Int) i) ↔ bt p (rd (1 :: 1 :: T) (q : Int)) = true := by
  unfold setP
  rw [List.mem_map]
  constructor
  · rintro ⟨q', h1, h2⟩
    obtain rfl : q' = q := by omega
    exact (List.mem_filter.1 h1).2
  · intro h
    exact ⟨q, List.mem_filter.2 ⟨List.mem_range'_1.2 (by omega), h⟩, rfl⟩
/-- all words from the third on without bit p -/
def clrT (T : List Int) (p : Nat) : List Int := T.map (fun x => Go.bits .andNot .i64 x ((2 ^ p : Nat) : Int))
theorem clrT_ok {T : List Int} (h : WOk T) (p : Nat) (hp : p ≤ 31) : WOk (clrT T p) := by
  refine ⟨by simp [clrT, h.lo], by simp [clrT, h.hi], fun x hx => ?_⟩
  unfold clrT at hx
  rw [List.mem_map] at hx
  obtain ⟨y, hy, rfl⟩ := hx
  have hyy := h.in_ y hy
  obtain ⟨n, rfl⟩ := Int.eq_ofNat_of_zero_le hyy.1
  rw [bits_andnot n p hp (by omega), (clr_nat n p).1]
  omega
theorem clrT_none {T : List Int} (h : WOk T) (p : Nat) (hp : p ≤ 31) : (clrT T p).countP (bt p) = 0 := by
  rw [List.countP_eq_zero]
  intro x hx
  unfold clrT at hx
  rw [List.mem_map] at hx
  obtain ⟨y, hy, rfl⟩ := hx
  have hyy := h.in_ y hy
  obtain ⟨n, rfl⟩ := Int.eq_ofNat_of_zero_le hyy.1
  rw [bits_andnot n p hp (by omega), (clr_nat n p).1, bt_nat _ _ hp, (clr_nat n p).2.1]
  simp
theorem plane_none {T : List Int} (h : WOk T) (p : Nat) (hp : p ≤ 31) (k : Nat) (hk : 1100000 < k) : impl_MapPlane.f k (1 :: 1 :: T) (p : Int) [] = some (1 :: 1 :: clrT T p, 0) := by
  rw [plane_f _ _ [] (by simp) k hk, planeR, if_pos ⟨h.right, by omega, by omega⟩, if_neg (fun ⟨b, hb, _⟩ => by cases hb)]
  rfl
theorem plane_back {T : List Int} (h : WOk T) (p : Nat) (hp : p ≤ 31) (k : Nat) (hk : 1100000 < k) (i : Nat) (hi : i = (1 :: 1 :: T : List Int).length) : impl_MapPlane.f k (1 :: 1 :: clrT T p) (p : Int) (setP (1 :: 1 :: T) (p : Int) i) = some (1 :: 1 :: T, 0) := by
  have h' := clrT_ok h p hp
  have hl := setP_len h p i hi
  have hle : T.countP (bt p) ≤ T.length := List.countP_le_length
  have hlT := h.hi
  have hin : ∀ b ∈ setP (1 :: 1 :: T) (p : Int) i, 2 ≤ b ∧ b < ((1 :: 1 :: clrT T p : List Int).length : Int) := fun b hb => by
    have := setP_in (p : Int) i b hb
    have e : (1 :: 1 :: clrT T p : List Int).length = T.length + 2 := by simp [clrT]
    have e2 : i = T.length + 2 := by rw [hi]; simp
    omega
  rw [plane_f _ _ _ (by omega) k hk, planeR, if_pos ⟨h'.right, by omega, by omega⟩, if_neg (fun ⟨b, hb, hn⟩ => hn (hin b hb))]
  congr 2
  rw [Int.toNat_natCast]
  apply List.ext_getElem
  · rw [turn_len]; simp [clrT]
  intro j h1 h2
  rw [turn_get _ (fun x => or_idem x _) _ _ (fun b hb => by have := hin b hb; omega) j (by rw [turn_len] at h1; exact h1)]
  rcases j with _ | _ | j
  · rw [if_neg (fun hm => by have := hin _ hm; omega)]; rfl
  · rw [if_neg (fun hm => by have := hin _ hm; omega)]; rfl
  have hj : j < T.length := by simpa using h2
  have ej : (List.take 2 (1 :: 1 :: clrT T p) ++ List.map (fun x => Go.bits .andNot .i64 x ((2 ^ p : Nat) : Int)) (List.drop 2 (1 :: 1 :: clrT T p)))[j + 2]'(by rw [turn_len] at h1; exact h1) = Go.bits .andNot .i64 (Go.bits .andNot .i64 T[j] ((2 ^ p : Nat) : Int)) ((2 ^ p : Nat) : Int) := by simp [clrT]
  have eT : (1 :: 1 :: T : List Int)[j + 2] = T[j] := rfl
  have hm := setP_mem (T := T) p i (j + 2) ⟨by omega, by rw [hi]; simpa using hj⟩
  have er : rd (1 :: 1 :: T) ((j + 2 : Nat) : Int) = T[j] := by rw [rd_some (show j + 2 < (1 :: 1 :: T : List Int).length by simpa using hj)]; rfl
  rw [er] at hm
  simp only [hm]
  show (if bt p T[j] = true then _ else _) = T[j]
  have hx := h.in_ _ (List.getElem_mem hj)
  generalize T[j] = x at hx ej eT
  rw [ej]
  obtain ⟨n, rfl⟩ := Int.eq_ofNat_of_zero_le hx.1
  obtain ⟨a1, a2, a3⟩ := clr_nat n p
  have hn : n - n / 2 ^ p % 2 * 2 ^ p ≤ 4294967295 := by omega
  obtain ⟨c1, c2, c3⟩ := clr_nat (n - n / 2 ^ p % 2 * 2 ^ p) p
  rw [bits_andnot n p hp (by omega), a1, bits_andnot _ p hp hn, c1, bt_nat p n hp]
  rw [a2, Nat.zero_mul, Nat.sub_zero]
  have hb : n / 2 ^ p % 2 < 2 := Nat.mod_lt _ (by omega)
  by_cases c : n / 2 ^ p % 2 = 1
  · rw [if_pos (decide_eq_true c), bits_or _ p hp hn a2]
    rw [c, Nat.one_mul] at a3 ⊢
    omega
  · rw [if_neg (by simpa using c)]
    have : n / 2 ^ p % 2 = 0 := by omega
    rw [this, Nat.zero_mul, Nat.sub_zero]
/-- how far behind the cursor -/
def key (c n : Nat) (b : Nat) : Nat := if c ≤ b then b - c else b + n - c
theorem key_eq (c n b : Nat) (hc : 2 ≤ c) (hcn : c < n) (hn : n ≤ 2048) (hb : b < n) : Int.tmod (wrap64 (wrap64 ((b : Int) - (c : Int)) + (n : Int))) (n : Int) = ((key c n b : Nat) : Int) := by
  rw [w64 (x := (b : Int) - (c : Int)) (by omega) (by omega), w64 (by omega) (by omega), Int.tmod_eq_emod_of_nonneg (by omega)]
  unfold key
  by_cases h : c ≤ b
  · rw [if_pos h, show ((b : Int) - (c : Int) + (n : Int)) = ((b - c : Nat) : Int) + (n : Int) by omega, Int.add_emod_right, Int.emod_eq_of_lt (by omega) (by omega)]
  · rw [if_neg h, Int.emod_eq_of_lt (by omega) (by omega)]; omega
theorem order_pw (c n : Nat) (hc : 2 ≤ c) (hcn : c < n) : (mf_order c n).Pairwise (fun a b => key c n a < key c n b) := by
  unfold mf_order
  rw [List.pairwise_append]
  refine ⟨(List.pairwise_lt_range' (s := c) (n := n - c)).imp_of_mem ?_, (List.pairwise_lt_range' (s := 2) (n := c - 2)).imp_of_mem ?_, ?_⟩
  · intro a b ha hb hab
    rw [List.mem_range'_1] at ha hb
    unfold key
    rw [if_pos (by omega), if_pos (by omega)]
    omega
  · intro a b ha hb hab
    rw [List.mem_range'_1] at ha hb
    unfold key
    rw [if_neg (by omega), if_neg (by omega)]
    omega
  · intro a ha b hb
    rw [List.mem_range'_1] at ha hb
    unfold key
    rw [if_pos (by omega), if_neg (by omega)]
    omega
def FN (W : List Int) (c : Nat) : List Nat := (mf_order c W.length).filter (fun b : Nat => decide (rd W (b : Int) = 0))
theorem FN_fr (W : List Int) (c : Nat) : mf_fr W (mf_order c W.length) = (FN W c).map (fun b : Nat => (b : Int)) := rfl
theorem FN_len {T : List Int} (c : Nat) (hc : 2 ≤ c) (hcn : c < (1 :: 1 :: T : List Int).length) : (FN (1 :: 1 :: T) c).length = (1 :: 1 :: T : List Int).countP isz := by
  unfold FN mf_order
  rw [← List.countP_eq_length_filter, List.countP_append]
  have e1 := cp_range isz (1 :: 1 :: T) ((1 :: 1 :: T : List Int).length - c) c (by omega)
  have e2 := cp_range isz (1 :: 1 :: T) (c - 2) 2 (by omega)
  have e3 : ((List.drop c (1 :: 1 :: T)).take ((1 :: 1 :: T : List Int).length - c)) = List.drop c (1 :: 1 :: T) := List.take_of_length_le (by rw [List.length_drop]; omega)
  have e4 : List.drop c (1 :: 1 :: T : List Int) = List.drop (c - 2) T := by
    obtain ⟨d, rfl⟩ : ∃ d, c = d + 2 := ⟨c - 2, by omega⟩
    rfl
  have e5 : List.drop 2 (1 :: 1 :: T : List Int) = T := rfl
  rw [e3, e4] at e1
  rw [e5] at e2
  show List.countP (fun b : Nat => isz (rd (1 :: 1 :: T) (b : Int))) _ + List.countP (fun b : Nat => isz (rd (1 :: 1 :: T) (b : Int))) _ = _
  rw [e1, e2]
  have e6 : T.countP isz = (T.take (c - 2)).countP isz + (T.drop (c - 2)).countP isz := by rw [← List.countP_append, List.take_append_drop]
  have e7 : (1 :: 1 :: T : List Int).countP isz = T.countP isz := by
    rw [List.countP_cons, List.countP_cons]
    simp [isz]
  rw [e7, e6]
  omega
theorem FN_mem {W : List Int} {c b : Nat} (hc : 2 ≤ c) (hcn : c < W.length) (h : b ∈ FN W c) : b < W.length ∧ 2 ≤ b ∧ rd W (b : Int) = 0 := by
  unfold FN mf_order at h
  rw [List.mem_filter, List.mem_append, List.mem_range'_1, List.mem_range'_1] at h
  exact ⟨by omega, by omega, of_decide_eq_true h.2⟩
theorem free_all {T : List Int} (h : WOk T) (c : Nat) (hc : 2 ≤ c) (hcn : c < (1 :: 1 :: T : List Int).length) (cf : Nat) (hcf : cf = (1 :: 1 :: T : List Int).countP isz) : ∃ nx : Int, impl_MapFree.f (1 :: 1 :: T) (c : Int) (cf : Int) = some ((FN (1 :: 1 :: T) c).map (fun b : Nat => (b : Int)), nx, 0) ∧ 2 ≤ nx ∧ nx < ((1 :: 1 :: T : List Int).length : Int) := by
  have hl := FN_len c hc hcn
  have hn : (1 :: 1 :: T : List Int).length ≤ 2048 := by have := h.hi; simp; omega
  have hlen : ((FN (1 :: 1 :: T) c).map (fun b : Nat => (b : Int))).length = cf := by rw [List.length_map, hl, hcf]
  have ho : mf_out (1 :: 1 :: T) (c : Int) (cf : Int) = (FN (1 :: 1 :: T) c).map (fun b : Nat => (b : Int)) := by
    unfold mf_out
    rw [Int.toNat_natCast, Int.toNat_natCast, FN_fr, List.take_of_length_le (by omega)]
  rw [free_f, freeR, if_pos ⟨h.right, by omega, by omega, by omega⟩, mf_res, ho, if_neg (by omega)]
  refine ⟨_, rfl, ?_⟩
  by_cases c0 : 0 < (cf : Int)
  · rw [if_pos c0]
    have hw1 : wrap64 ((cf : Int) - 1) = ((cf - 1 : Nat) : Int) := by
      have : cf ≤ (1 :: 1 :: T : List Int).length := by rw [hcf]; exact List.countP_le_length
      rw [w64 (by omega) (by omega)]; omega
    have hc1 : cf - 1 < (FN (1 :: 1 :: T) c).length := by rw [List.length_map] at hlen; omega
    rw [hw1, rd_some (by rw [List.length_map]; exact hc1), List.getElem_map]
    have hb := FN_mem hc hcn (List.getElem_mem hc1)
    generalize (FN (1 :: 1 :: T) c)[cf - 1] = b at hb
    unfold mf_behind
    rw [w64 (x := (((1 :: 1 :: T : List Int).length : Nat) : Int) - 1) (by omega) (by omega)]
    by_cases e : (b : Int) = (((1 :: 1 :: T : List Int).length : Nat) : Int) - 1
    · rw [if_pos e]; omega
    · rw [if_neg e, w64 (by omega) (by omega)]; omega
  · rw [if_neg c0]; omega
theorem free_more {T : List Int} (h : WOk T) (c : Nat) (hc : 2 ≤ c) (hcn : c < (1 :: 1 :: T : List Int).length) (cf : Nat) (hcf : cf = (1 :: 1 :: T : List Int).countP isz) : impl_MapFree.f (1 :: 1 :: T) (c : Int) (wrap64 ((cf : Int) + 1)) = some ([], 0, 9) := by
  have hl := FN_len c hc hcn
  have hn : (1 :: 1 :: T : List Int).length ≤ 2048 := by have := h.hi; simp; omega
  have hle : cf ≤ (1 :: 1 :: T : List Int).length := by rw [hcf]; exact List.countP_le_length
  rw [w64n (by omega), free_f, freeR, if_pos ⟨h.right, by omega, by omega, by omega⟩, mf_res, if_pos]
  unfold mf_out
  rw [Int.toNat_natCast, Int.toNat_natCast, FN_fr, List.length_take, List.length_map]
  omega
theorem order_at {T : List Int} (h : WOk T) (c : Nat) (hc : 2 ≤ c) (hcn : c < (1 :: 1 :: T : List Int).length) (j : Nat) (hj : j < ((FN (1 :: 1 :: T) c).map (fun b : Nat => (b : Int))).length) (hj0 : 0 < j) :
    ¬ Int.tmod (wrap64 (wrap64 (rd ((FN (1 :: 1 :: T) c).map (fun b : Nat => (b : Int))) (j : Int) - (c : Int)) + ((1 :: 1 :: T : List Int).length : Int))) ((1 :: 1 :: T : List Int).length : Int) ≤ Int.tmod (wrap64 (wrap64 (rd ((FN (1 :: 1 :: T) c).map (fun b : Nat => (b : Int))) (wrap64 ((j : Int) - 1)) - (c : Int)) + ((1 :: 1 :: T : List Int).length : Int))) ((1 :: 1 :: T : List Int).length : Int) := by
  have hn : (1 :: 1 :: T : List Int).length ≤ 2048 := by have := h.hi; simp; omega
  have hj' : j < (FN (1 :: 1 :: T) c).length := by simpa using hj
  have hlen := FN_len c hc hcn
  have hle : (1 :: 1 :: T : List Int).countP isz ≤ (1 :: 1 :: T : List Int).length := List.countP_le_length
  have hw1 : wrap64 ((j : Int) - 1) = ((j - 1 : Nat) : Int) := by rw [w64 (by omega) (by omega)]; omega
  rw [hw1, rd_some hj, rd_some (by omega), List.getElem_map, List.getElem_map]
  have b1 := FN_mem hc hcn (List.getElem_mem hj')
  have b2 := FN_mem hc hcn (List.getElem_mem (show j - 1 < (FN (1 :: 1 :: T) c).length by omega))
  have hp : (FN (1 :: 1 :: T) c).Pairwise (fun a b => key c (1 :: 1 :: T : List Int).length a < key c (1 :: 1 :: T : List Int).length b) := (order_pw c _ hc hcn).filter _
  have := List.pairwise_iff_getElem.1 hp (j - 1) j (by omega) hj' (by omega)
  rw [key_eq c _ _ hc hcn hn b1.1, key_eq c _ _ hc hcn hn b2.1]
  omega
theorem draw_l0 (b : List Int) (hb : b.length ≤ 1048576) (m : Nat) (hm : m ≤ 2048) (full : Int) : ∀ (d K : Nat) (T : List Int) (i x : Int), T.length + 2 + d = m → (∀ y ∈ T, 0 ≤ y ∧ y ≤ 4294967295) → 0 ≤ i ∧ i ≤ b.length →
    ∃ T' i' x', spec_L04DrawWords.l0 (K + 2 * d + 1) (m : Int) (1 :: 1 :: T) full b i x = some (1 :: 1 :: T', i', x') ∧ T'.length + 2 = m ∧ (∀ y ∈ T', 0 ≤ y ∧ y ≤ 4294967295) ∧ 0 ≤ i' ∧ i' ≤ b.length
  | 0, K, T, i, x, h1, hT, hi => by
    refine ⟨T, i, x, ?_, by omega, hT, hi⟩
    rw [spec_L04DrawWords.l0.eq_2, if_neg (by simp; omega)]
  | d + 1, K, T, i, x, h1, hT, hi => by
    have step : ∀ (y i x : Int), 0 ≤ y ∧ y ≤ 4294967295 → 0 ≤ i ∧ i ≤ b.length → ∃ T' i' x', spec_L04DrawWords.j1 (K + 2 * d + 1 + 1) (m : Int) (1 :: 1 :: T) full y b i x = some (1 :: 1 :: T', i', x') ∧ T'.length + 2 = m ∧ (∀ y ∈ T', 0 ≤ y ∧ y ≤ 4294967295) ∧ 0 ≤ i' ∧ i' ≤ b.length := by
      intro y i x hy hi
      have app : ∀ (z : Int), 0 ≤ z ∧ z ≤ 4294967295 → ∀ t ∈ T ++ [z], 0 ≤ t ∧ t ≤ 4294967295 := by
        intro z hz t ht
        rw [List.mem_append, List.mem_singleton] at ht
        rcases ht with ht | rfl
        · exact hT t ht
        · exact hz
      obtain ⟨v1, i1, x1, e1, b1, hi1⟩ := src_N b hb i x 9 hi (by omega) (by omega)
      rw [spec_L04DrawWords.j1.eq_2, spec_l01Src_One.f, e1, Option.bind_some, Option.bind_some]
      dsimp only
      by_cases c : (v1 == 0) = true
      · obtain ⟨v2, i2, x2, e2, b2, hi2⟩ := src_N b hb i1 x1 2 hi1 (by omega) (by omega)
        rw [if_pos c, e2, Option.bind_some, if_pos (by simp; omega)]
        dsimp only
        have e : wrap64 (4294967295 - v2) = 4294967295 - v2 := w64 (by omega) (by omega)
        rw [e]
        exact draw_l0 b hb m hm full d K (T ++ [4294967295 - v2]) i2 x2 (by simp; omega) (app _ (by omega)) hi2
      · rw [if_neg c, if_pos (by simp; omega)]
        exact draw_l0 b hb m hm full d K (T ++ [y]) i1 x1 (by simp; omega) (app _ hy) hi1
    rw [show K + 2 * (d + 1) + 1 = (K + 2 * d + 1 + 1) + 1 by omega, spec_L04DrawWords.l0.eq_2, if_pos (by simp; omega)]
    obtain ⟨v1, i1, x1, e1, b1, hi1⟩ := src_N b hb i x 5 hi (by omega) (by omega)
    rw [e1, Option.bind_some]
    dsimp only
    by_cases c : v1 < full
    · obtain ⟨v2, i2, x2, e2, b2, hi2⟩ := src_N b hb i1 x1 3 hi1 (by omega) (by omega)
      rw [if_pos c, e2, Option.bind_some]
      dsimp only
      have e : wrap64 (1 + v2) = 1 + v2 := w64 (by omega) (by omega)
      rw [e]
      exact step _ _ _ (by omega) hi2
    · rw [if_neg c]
      exact step _ _ _ (by omega) hi1
theorem draw_f (b : List Int) (hb : b.length ≤ 1048576) (m : Nat) (h64 : 64 ≤ m) (hm : m ≤ 2048) (i x : Int) (hi : 0 ≤ i ∧ i ≤ b.length) (k : Nat) (hk : 5000 < k) : ∃ T i' x', spec_L04DrawWords.f k b i x (m : Int) = some (1 :: 1 :: T, i', x') ∧ WOk T ∧ T.length + 2 = m ∧ 0 ≤ i' ∧ i' ≤ b.length := by
  unfold spec_L04DrawWords.f
  obtain ⟨v1, i1, x1, e1, b1, hi1⟩ := src_N b hb i x 4 hi (by omega) (by omega)
  rw [e1, Option.bind_some]
  dsimp only
  obtain ⟨T', i', x', h1, h2, h3, h4⟩ := draw_l0 b hb m hm (wrap64 (1 + v1)) (m - 2) (k - 2 * (m - 2) - 1) [] i1 x1 (by simp; omega) (fun y hy => by cases hy) hi1
  rw [show k - 2 * (m - 2) - 1 + 2 * (m - 2) + 1 = k by omega] at h1
  exact ⟨T', i', x', h1, ⟨by omega, by omega, h3⟩, h2, h4⟩
end Go.Proofs.Ytjhaofdnlnbajaa.PureFree
