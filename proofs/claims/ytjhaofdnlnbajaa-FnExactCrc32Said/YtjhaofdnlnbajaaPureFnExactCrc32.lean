/- The law of Crc32 answers true for every slice of bytes; no condition. -/
import Derived.Test.YtjhaofdnlnbajaaPFnExactCrc32x1
import Derived.OpenShut
import Derived.Laws.BitsLemmas
import Derived.OpenShut
import Derived.Laws.BitsLemmas
namespace Go.Proofs.Ytjhaofdnlnbajaa.Pure
open Go.RowKit Go.Proofs.Ytjhaofdnlnbajaa.PFnExactCrc32 Go.Proofs.YtjhaofdnlnbajaaW.PrintWords Go.Proofs.YtjhaofdnlnbajaaW.PrintLast
set_option linter.unusedVariables false
set_option linter.unusedVariables false

theorem w64 {x : Int} (h0 : -9223372036854775808 ≤ x) (h1 : x ≤ 9223372036854775807) : wrap64 x = x := by unfold wrap64; omega
theorem w64n {n : Nat} (h : n < 9223372036854775807) : wrap64 ((n : Int) + 1) = ((n + 1 : Nat) : Int) := by unfold wrap64; omega
theorem sucK {n k : Nat} (h : n < k) : ∃ m, k = m + 1 := ⟨k - 1, by omega⟩
theorem rdN (xs : List Int) (i : Nat) : rd xs (i : Int) = xs.getD i 0 := by simp [rd]
theorem rd_some {xs : List Int} {i : Nat} (h : i < xs.length) : rd xs (i : Int) = xs[i] := by rw [rdN, List.getD_eq_getElem?_getD, List.getElem?_eq_getElem h]; rfl

theorem toByteS_l0 (x0 : List Int) (hn : x0.length < 9223372036854775807) : ∀ (d i k : Nat) (x3 : List Int), i + d = x0.length → x3.length = x0.length → d < k → laws_toByteS.l0 k x0 x3 (i : Int) = some (x3.take i ++ x0.drop i)
  | 0, i, k, x3, h1, h2, h3 => by
    obtain ⟨k, rfl⟩ := sucK h3
    simp only [laws_toByteS.l0]
    rw [if_neg (by omega), List.take_of_length_le (by omega), List.drop_eq_nil_of_le (by omega), List.append_nil]
  | d + 1, i, k, x3, h1, h2, h3 => by
    obtain ⟨k, rfl⟩ := sucK h3
    simp only [laws_toByteS.l0]
    rw [if_pos (by omega), if_pos (by omega), if_pos (by omega), w64n (by omega), toByteS_l0 x0 hn d (i + 1) k _ (by omega) (by simpa using h2) (by omega)]
    have hi : i < x0.length := by omega
    rw [Int.toNat_natCast, rd_some hi, List.take_succ_eq_append_getElem (by rw [List.length_set]; omega), List.getElem_set_self, List.take_set_of_le (Nat.le_refl i), List.append_assoc, List.drop_eq_getElem_cons hi]
    rfl
theorem toByteS_f (l : List Int) (k : Nat) (hn : l.length ≤ 1048576) (hk : l.length < k) : laws_toByteS.f k l = some l := by
  unfold laws_toByteS.f
  rw [if_pos (by omega), if_pos (by omega)]
  have h := toByteS_l0 l (by omega) l.length 0 k (List.replicate ((l.length : Int)).toNat 0) (by omega) (by simp) hk
  rw [List.take_zero, List.drop_zero, List.nil_append] at h
  exact h

theorem eqByteS_l0 (x0 x1 : List Int) (hn : x0.length < 9223372036854775807) (hl : x0.length = x1.length) : ∀ (d i k : Nat), i + d = x0.length → d < k → laws_eqByteS.l0 k x0 x1 (i : Int) = some (decide (x0.drop i = x1.drop i))
  | 0, i, k, h1, h3 => by
    obtain ⟨k, rfl⟩ := sucK h3
    simp only [laws_eqByteS.l0]
    rw [if_neg (by omega), List.drop_eq_nil_of_le (by omega), List.drop_eq_nil_of_le (by omega)]
    simp
  | d + 1, i, k, h1, h3 => by
    obtain ⟨k, rfl⟩ := sucK h3
    simp only [laws_eqByteS.l0]
    have hi : i < x0.length := by omega
    have hi1 : i < x1.length := by omega
    have hd0 := List.drop_eq_getElem_cons hi
    have hd1 := List.drop_eq_getElem_cons hi1
    rw [if_pos (by omega), if_pos (by omega), if_pos (by omega), w64n (by omega), eqByteS_l0 x0 x1 hn hl d (i + 1) k (by omega) (by omega), rd_some hi, rd_some hi1]
    by_cases h : x0[i] = x1[i]
    · rw [if_pos h]
      simp only [hd0, hd1, List.cons.injEq, h, true_and]
    · rw [if_neg h]
      simp only [hd0, hd1, List.cons.injEq, h, false_and, decide_false]
theorem eqByteS_f (a b : List Int) (k : Nat) (hn : a.length ≤ 1048576) (hk : a.length < k) : laws_eqByteS.f k a b = some (decide (a = b)) := by
  unfold laws_eqByteS.f
  by_cases h : a.length = b.length
  · rw [if_pos (by omega)]
    exact eqByteS_l0 a b (by omega) h a.length 0 k (by omega) hk
  · rw [if_neg (by omega)]
    have : a ≠ b := fun e => h (by rw [e])
    simp [this]

/-! the sum, over natural numbers -/
theorem xor_nat (a b : Nat) (ha : a < 4294967296) (hb : b < 4294967296) : Go.bits .xor .u32 (a : Int) (b : Int) = ((a ^^^ b : Nat) : Int) := by
  have h : (BitVec.ofInt 32 (a : Int) ^^^ BitVec.ofInt 32 (b : Int)).toNat = a ^^^ b := by
    rw [BitVec.toNat_xor, BitVec.ofInt_natCast, BitVec.ofInt_natCast, BitVec.toNat_ofNat, BitVec.toNat_ofNat, Nat.mod_eq_of_lt (by omega), Nat.mod_eq_of_lt (by omega)]
  have hlt : a ^^^ b < 2 ^ 32 := Nat.xor_lt_two_pow (by omega) (by omega)
  show IntKind.u32.wrap (((BitVec.ofInt 32 (a : Int) ^^^ BitVec.ofInt 32 (b : Int)).toNat : Nat) : Int) = _
  rw [h, IntKind.wrap_u32]
  omega
theorem and1_u32 (a : Nat) (ha : a < 4294967296) : Go.bits .and .u32 (a : Int) 1 = ((a % 2 : Nat) : Int) := by
  have h := (bits_nat .u32 32 (by decide) (fun n h0 h1 => by rw [IntKind.wrap_u32]; omega) a 1 (by omega) (by omega)).1
  rw [Nat.and_one_is_mod] at h
  exact h
/-- one bit's step -/
def stepB (x : Nat) : Nat := x / 2 ^^^ (if x % 2 = 1 then 3988292384 else 0)
def stepN : Nat → Nat → Nat
  | 0, x => x
  | d + 1, x => stepN d (stepB x)
theorem stepB_lt {x : Nat} (h : x < 4294967296) : stepB x < 4294967296 := by
  unfold stepB
  have : x / 2 ^^^ (if x % 2 = 1 then 3988292384 else 0) < 2 ^ 32 := Nat.xor_lt_two_pow (by omega) (by split <;> omega)
  omega
theorem stepN_lt (d : Nat) : ∀ {x : Nat}, x < 4294967296 → stepN d x < 4294967296 := by
  induction d with
  | zero => exact fun h => h
  | succ d ih => exact fun h => ih (stepB_lt h)
theorem xor4 (a b c d : Nat) : (a ^^^ b) ^^^ (c ^^^ d) = (a ^^^ c) ^^^ (b ^^^ d) := by
  rw [Nat.xor_assoc, Nat.xor_assoc, ← Nat.xor_assoc b c d, Nat.xor_comm b c, Nat.xor_assoc c b d]
theorem stepB_xor (a b : Nat) : stepB (a ^^^ b) = stepB a ^^^ stepB b := by
  unfold stepB
  rw [xor4, Nat.xor_div_two]
  congr 1
  have h : (a ^^^ b) % 2 = a % 2 ^^^ b % 2 := by
    rw [← Nat.and_one_is_mod, ← Nat.and_one_is_mod a, ← Nat.and_one_is_mod b, Nat.and_xor_distrib_right]
  rw [h]
  rcases Nat.mod_two_eq_zero_or_one a with ha | ha <;> rcases Nat.mod_two_eq_zero_or_one b with hb | hb <;> rw [ha, hb] <;> simp
theorem stepN_xor (d : Nat) : ∀ a b : Nat, stepN d (a ^^^ b) = stepN d a ^^^ stepN d b := by
  induction d with
  | zero => exact fun _ _ => rfl
  | succ d ih => intro a b; simp only [stepN]; rw [stepB_xor, ih]
theorem stepN_split (d : Nat) : ∀ x : Nat, stepN d x = stepN d (x % 2 ^ d) ^^^ x / 2 ^ d := by
  induction d with
  | zero => intro x; simp [stepN, Nat.mod_one]
  | succ d ih =>
    intro x
    have e1 : x % 2 ^ (d + 1) / 2 = x / 2 % 2 ^ d := by
      rw [Nat.pow_succ, Nat.mul_comm, Nat.mod_mul_right_div_self]
    have e2 : x % 2 ^ (d + 1) % 2 = x % 2 := by
      rw [Nat.pow_succ]
      exact Nat.mod_mul_left_mod x (2 ^ d) 2
    have e3 : x / 2 / 2 ^ d = x / 2 ^ (d + 1) := by rw [Nat.div_div_eq_div_mul, Nat.pow_succ, Nat.mul_comm]
    simp only [stepN]
    have s1 : stepB x = x / 2 ^^^ (if x % 2 = 1 then 3988292384 else 0) := rfl
    have s2 : stepB (x % 2 ^ (d + 1)) = x / 2 % 2 ^ d ^^^ (if x % 2 = 1 then 3988292384 else 0) := by unfold stepB; rw [e1, e2]
    rw [s1, s2, stepN_xor, stepN_xor, ih (x / 2), e3, Nat.xor_assoc, Nat.xor_assoc, Nat.xor_comm (x / 2 ^ (d + 1))]
/-- a byte's part -/
def crcS : Nat → List Nat → Nat
  | n, [] => n
  | n, c :: cs => crcS (n / 256 ^^^ stepN 8 ((n ^^^ c) % 256)) cs
def crcI : Nat → List Nat → Nat
  | n, [] => n
  | n, c :: cs => crcI (stepN 8 (n ^^^ c)) cs
theorem byte_step (n c : Nat) (hc : c < 256) : n / 256 ^^^ stepN 8 ((n ^^^ c) % 256) = stepN 8 (n ^^^ c) := by
  rw [stepN_split 8 (n ^^^ c), Nat.xor_comm]
  congr 1
  have h : (n ^^^ c) / 2 ^ 8 = n / 2 ^ 8 ^^^ c / 2 ^ 8 := by
    simp only [← Nat.shiftRight_eq_div_pow]
    exact Nat.shiftRight_xor_distrib
  rw [h, show c / 2 ^ 8 = 0 by omega]
  simp
theorem crc_eq (l : List Nat) (h : ∀ c ∈ l, c < 256) : ∀ n, crcS n l = crcI n l := by
  induction l with
  | nil => exact fun _ => rfl
  | cons c cs ih => intro n; simp only [crcS, crcI]; rw [byte_step n c (h c (by simp)), ih (fun x hx => h x (by simp [hx]))]
def nats (l : List Int) : List Nat := l.map Int.toNat

theorem table_l0 : ∀ (d i k n : Nat), i + d = 8 → d < k → n < 4294967296 → spec_l02Table.l0 k (n : Int) (i : Int) = some ((stepN d n : Nat) : Int)
  | 0, i, k, n, h1, h2, h3 => by
    obtain ⟨k, rfl⟩ := sucK h2
    simp only [spec_l02Table.l0]
    rw [if_neg (by omega)]
    rfl
  | d + 1, i, k, n, h1, h2, h3 => by
    obtain ⟨k, rfl⟩ := sucK h2
    have e1 : Int.tmod (n : Int) 2 = ((n % 2 : Nat) : Int) := by rw [Int.tmod_eq_emod_of_nonneg (by omega)]; omega
    have e2 : Int.tdiv (n : Int) 2 % 4294967296 = ((n / 2 : Nat) : Int) := by rw [Int.tdiv_eq_ediv_of_nonneg (by omega)]; omega
    have e3 : (3988292384 : Int) = ((3988292384 : Nat) : Int) := rfl
    simp only [spec_l02Table.l0]
    rw [if_pos (by omega), e1, e2, w64n (by omega)]
    by_cases hp : n % 2 = 1
    · rw [if_pos (by omega), e3, xor_nat _ _ (by omega) (by omega), table_l0 d (i + 1) k _ (by omega) (by omega) (by have := stepB_lt h3; unfold stepB at this; rw [if_pos hp] at this; exact this)]
      simp only [stepN, stepB, if_pos hp]
    · rw [if_neg (by omega), table_l0 d (i + 1) k _ (by omega) (by omega) (by omega)]
      simp only [stepN, stepB, if_neg hp, Nat.xor_zero]
theorem table_f (n k : Nat) (hk : 8 < k) (hn : n < 4294967296) : spec_l02Table.f k (n : Int) = some ((stepN 8 n : Nat) : Int) := table_l0 8 0 k n rfl hk hn
theorem specCrc_l0 (l : List Int) (hb : ∀ x ∈ l, 0 ≤ x ∧ x ≤ 255) (hl : l.length ≤ 1048576) : ∀ (d i k n : Nat), i + d = l.length → d + 10 < k → n < 4294967296 → spec_Crc32.l0 k (n : Int) l (l.length : Int) (i : Int) = some (Go.bits .xor .u32 ((crcS n (nats (l.drop i)) : Nat) : Int) 4294967295)
  | 0, i, k, n, h1, h2, h3 => by
    obtain ⟨k, rfl⟩ := sucK h2
    simp only [spec_Crc32.l0]
    rw [if_neg (by omega), List.drop_eq_nil_of_le (by omega)]
    rfl
  | d + 1, i, k, n, h1, h2, h3 => by
    obtain ⟨k, rfl⟩ := sucK h2
    have hi : i < l.length := by omega
    have hx := hb _ (List.getElem_mem hi)
    obtain ⟨c, hc⟩ := Int.eq_ofNat_of_zero_le hx.1
    have hc8 : c < 256 := by omega
    simp only [spec_Crc32.l0]
    have hlt : n ^^^ c < 2 ^ 32 := Nat.xor_lt_two_pow (by omega) (by omega)
    rw [if_pos (by omega), if_pos (by omega), if_pos (by omega), rd_some hi, hc, show (c : Int) % 4294967296 = (c : Int) by omega, xor_nat _ _ h3 (by omega), Int.tmod_eq_emod_of_nonneg (by omega), show (((n ^^^ c : Nat) : Int) % 256) = (((n ^^^ c) % 256 : Nat) : Int) by omega, table_f _ k (by omega) (by omega), Option.bind_some, Int.tdiv_eq_ediv_of_nonneg (by omega), show ((n : Int) / 256 % 4294967296) = ((n / 256 : Nat) : Int) by omega, xor_nat _ _ (by omega) (stepN_lt 8 (by omega)), w64n (by omega), specCrc_l0 l hb hl d (i + 1) k _ (by omega) (by omega) (by rw [byte_step n c hc8]; exact stepN_lt 8 (by omega)), List.drop_eq_getElem_cons hi]
    simp only [nats, List.map_cons, hc, Int.toNat_natCast, crcS]
theorem specCrc_f (l : List Int) (hb : ∀ x ∈ l, 0 ≤ x ∧ x ≤ 255) (hl : l.length ≤ 1048576) (k : Nat) (hk : l.length + 10 < k) : spec_Crc32.f k l = some (Go.bits .xor .u32 ((crcS 4294967295 (nats l) : Nat) : Int) 4294967295) := by
  unfold spec_Crc32.f
  exact specCrc_l0 l hb hl l.length 0 k 4294967295 (by omega) hk (by omega)

theorem implCrc_l1 (l : List Int) (x8 : Int) : ∀ (d i k n : Nat), i + d = 8 → n < 4294967296 → impl_Crc32.l1 (k + d + 1) (n : Int) l (l.length : Int) x8 (i : Int) = impl_Crc32.l0 k ((stepN d n : Nat) : Int) l (l.length : Int) (wrap64 (x8 + 1))
  | 0, i, k, n, h1, h3 => by
    simp only [impl_Crc32.l1]
    rw [if_neg (by omega)]
    rfl
  | d + 1, i, k, n, h1, h3 => by
    have ea := and1_u32 n h3
    have e2 : (n : Int) / 2 = ((n / 2 : Nat) : Int) := by omega
    have hv : Go.bits .xor .u32 ((n : Int) / 2) (Go.bits .and .u32 3988292384 ((-(Go.bits .and .u32 (n : Int) 1)) % 4294967296)) = ((stepB n : Nat) : Int) := by
      rw [ea, e2]
      by_cases hp : n % 2 = 1
      · rw [hp, show (-((1 : Nat) : Int)) % 4294967296 = 4294967295 by omega, show Go.bits .and .u32 3988292384 4294967295 = ((3988292384 : Nat) : Int) by decide +kernel, xor_nat _ _ (by omega) (by omega)]
        simp only [stepB, if_pos hp]
      · rw [show n % 2 = 0 by omega, show (-((0 : Nat) : Int)) % 4294967296 = 0 by omega, show Go.bits .and .u32 3988292384 0 = ((0 : Nat) : Int) by decide +kernel, xor_nat _ _ (by omega) (by omega)]
        simp only [stepB, if_neg hp]
    rw [show k + (d + 1) + 1 = (k + d + 1) + 1 by omega, impl_Crc32.l1, if_pos (by omega), hv, w64n (by omega), implCrc_l1 l x8 d (i + 1) k _ (by omega) (stepB_lt h3)]
    rfl
theorem implCrc_l0 (l : List Int) (hb : ∀ x ∈ l, 0 ≤ x ∧ x ≤ 255) (hl : l.length ≤ 1048576) : ∀ (d i k n : Nat), i + d = l.length → 10 * d + 10 < k → n < 4294967296 → impl_Crc32.l0 k (n : Int) l (l.length : Int) (i : Int) = some (Go.bits .xor .u32 4294967295 ((crcI n (nats (l.drop i)) : Nat) : Int))
  | 0, i, k, n, h1, h2, h3 => by
    obtain ⟨k, rfl⟩ := sucK h2
    simp only [impl_Crc32.l0]
    rw [if_neg (by omega), List.drop_eq_nil_of_le (by omega)]
    rfl
  | d + 1, i, k, n, h1, h2, h3 => by
    obtain ⟨k, rfl⟩ : ∃ j, k = (j + 8 + 1) + 1 := ⟨k - 10, by omega⟩
    have hi : i < l.length := by omega
    have hx := hb _ (List.getElem_mem hi)
    obtain ⟨c, hc⟩ := Int.eq_ofNat_of_zero_le hx.1
    have hc8 : c < 256 := by omega
    have hlt : n ^^^ c < 2 ^ 32 := Nat.xor_lt_two_pow (by omega) (by omega)
    rw [impl_Crc32.l0]
    rw [if_pos (by omega), if_pos (by omega), if_pos (by omega), rd_some hi, hc, show (c : Int) % 4294967296 = (c : Int) by omega, xor_nat _ _ h3 (by omega)]
    have h := implCrc_l1 l (i : Int) 8 0 k (n ^^^ c) rfl (by omega)
    rw [show ((0 : Nat) : Int) = 0 from rfl] at h
    rw [h, w64n (by omega), implCrc_l0 l hb hl d (i + 1) k _ (by omega) (by omega) (stepN_lt 8 (by omega)), List.drop_eq_getElem_cons hi]
    simp only [nats, List.map_cons, hc, Int.toNat_natCast, crcI]
theorem implCrc_f (l : List Int) (hb : ∀ x ∈ l, 0 ≤ x ∧ x ≤ 255) (hl : l.length ≤ 1048576) (k : Nat) (hk : 10 * l.length + 10 < k) : impl_Crc32.f k l = some (Go.bits .xor .u32 4294967295 ((crcI 4294967295 (nats l) : Nat) : Int)) := by
  unfold impl_Crc32.f
  exact implCrc_l0 l hb hl l.length 0 k 4294967295 (by omega) hk (by omega)
theorem crcI_lt (l : List Nat) (hb : ∀ c ∈ l, c < 256) : ∀ n, n < 4294967296 → crcI n l < 4294967296 := by
  induction l with
  | nil => exact fun n h => h
  | cons c cs ih =>
    intro n h
    have hc := hb c (by simp)
    have hlt : n ^^^ c < 2 ^ 32 := Nat.xor_lt_two_pow (by omega) (by omega)
    exact ih (fun x hx => hb x (by simp [hx])) _ (stepN_lt 8 (by omega))
theorem nats_byt {l : List Int} (hb : ∀ x ∈ l, 0 ≤ x ∧ x ≤ 255) : ∀ c ∈ nats l, c < 256 := by
  intro c hc
  obtain ⟨x, hx, rfl⟩ := List.mem_map.1 hc
  have := hb x hx
  omega
/-- the sum of bytes -/
def crcV (l : List Int) : Int := ((crcI 4294967295 (nats l) ^^^ 4294967295 : Nat) : Int)
theorem crc_f (l : List Int) (hb : ∀ x ∈ l, 0 ≤ x ∧ x ≤ 255) (hl : l.length ≤ 1048576) (k : Nat) (hk : 10 * l.length + 10 < k) : spec_Crc32.f k l = some (crcV l) ∧ impl_Crc32.f k l = some (crcV l) := by
  have hlt := crcI_lt (nats l) (nats_byt hb) 4294967295 (by omega)
  have e : (4294967295 : Int) = ((4294967295 : Nat) : Int) := rfl
  rw [specCrc_f l hb hl k (by omega), implCrc_f l hb hl k hk, crc_eq _ (nats_byt hb), e, xor_nat _ _ hlt (by omega), xor_nat _ _ (by omega) hlt, Nat.xor_comm 4294967295]
  exact ⟨rfl, rfl⟩
theorem FnExactCrc32 : laws_FnExactCrc32.Pure := by
  intro l _ _ hwf
  have hb : ∀ x ∈ l, 0 ≤ x ∧ x ≤ 255 := fun x hx => Go.bounds_u8 (hwf x hx)
  refine ⟨20000000, ?_⟩
  unfold laws_FnExactCrc32.f
  by_cases hl : (l.length : Int) > 1048576
  · rw [if_pos hl]
  · have hn : l.length ≤ 1048576 := by omega
    obtain ⟨c1, c2⟩ := crc_f l hb hn 20000000 (by omega)
    rw [if_neg hl, toByteS_f l _ hn (by omega)]
    simp only [Option.bind_some, c1, c2, if_true, eqByteS_f l l 20000000 hn (by omega), decide_true]

end Go.Proofs.Ytjhaofdnlnbajaa.Pure
