/- The sum of bytes (crc). No condition. -/
import Derived.Test.YtknlpjoidjgciaaDoorWLe
namespace Go.Proofs.YtknlpjoidjgciaaDoorW.PrintCrc
open Go.RowKit Go.Proofs.YtknlpjoidjgciaaDoorW.PrintWords Go.Proofs.YtknlpjoidjgciaaDoorW.PrintHand Go.Proofs.YtknlpjoidjgciaaDoorW.PrintHx Go.Proofs.YtknlpjoidjgciaaDoorW.PrintLe
set_option linter.unusedVariables false
/-! the sum, over natural numbers -/
theorem xor_nat (a b : Nat) (ha : a < 4294967296) (hb : b < 4294967296) : Go.bits .xor .u32 (a : Int) (b : Int) = ((a ^^^ b : Nat) : Int) := by
  have h : (BitVec.ofInt 32 (a : Int) ^^^ BitVec.ofInt 32 (b : Int)).toNat = a ^^^ b := by
    rw [BitVec.toNat_xor, BitVec.ofInt_natCast, BitVec.ofInt_natCast, BitVec.toNat_ofNat, BitVec.toNat_ofNat, Nat.mod_eq_of_lt (by omega), Nat.mod_eq_of_lt (by omega)]
  have hlt : a ^^^ b < 2 ^ 32 := Nat.xor_lt_two_pow (by omega) (by omega)
  show IntKind.u32.wrap (((BitVec.ofInt 32 (a : Int) ^^^ BitVec.ofInt 32 (b : Int)).toNat : Nat) : Int) = _
  rw [h, IntKind.wrap_u32]
  omega
theorem and1_u32 (a : Nat) (ha : a < 4294967296) : Go.bits .and .u32 (a : Int) 1 = ((a % 2 : Nat) : Int) := by
  have h := (bits_nat .u32 32 (by decide) (fun n h0 h1 => by rw [IntKind.wrap_u32]; omega) a 1 (by omega) (by omega)).1
  rw [Nat.and_one_is_mod] at h
  exact h
/-- one bit's step -/
def stepB (x : Nat) : Nat := x / 2 ^^^ (if x % 2 = 1 then 3988292384 else 0)
def stepN : Nat → Nat → Nat
  | 0, x => x
  | d + 1, x => stepN d (stepB x)
theorem stepB_lt {x : Nat} (h : x < 4294967296) : stepB x < 4294967296 := by
  unfold stepB
  have : x / 2 ^^^ (if x % 2 = 1 then 3988292384 else 0) < 2 ^ 32 := Nat.xor_lt_two_pow (by omega) (by split <;> omega)
  omega
theorem stepN_lt (d : Nat) : ∀ {x : Nat}, x < 4294967296 → stepN d x < 4294967296 := by
  induction d with
  | zero => exact fun h => h
  | succ d ih => exact fun h => ih (stepB_lt h)
theorem xor4 (a b c d : Nat) : (a ^^^ b) ^^^ (c ^^^ d) = (a ^^^ c) ^^^ (b ^^^ d) := by
  rw [Nat.xor_assoc, Nat.xor_assoc, ← Nat.xor_assoc b c d, Nat.xor_comm b c, Nat.xor_assoc c b d]
theorem stepB_xor (a b : Nat) : stepB (a ^^^ b) = stepB a ^^^ stepB b := by
  unfold stepB
  rw [xor4, Nat.xor_div_two]
  congr 1
  have h : (a ^^^ b) % 2 = a % 2 ^^^ b % 2 := by
    rw [← Nat.and_one_is_mod, ← Nat.and_one_is_mod a, ← Nat.and_one_is_mod b, Nat.and_xor_distrib_right]
  rw [h]
  rcases Nat.mod_two_eq_zero_or_one a with ha | ha <;> rcases Nat.mod_two_eq_zero_or_one b with hb | hb <;> rw [ha, hb] <;> simp
theorem stepN_xor (d : Nat) : ∀ a b : Nat, stepN d (a ^^^ b) = stepN d a ^^^ stepN d b := by
  induction d with
  | zero => exact fun _ _ => rfl
  | succ d ih => intro a b; simp only [stepN]; rw [stepB_xor, ih]
theorem stepN_split (d : Nat) : ∀ x : Nat, stepN d x = stepN d (x % 2 ^ d) ^^^ x / 2 ^ d := by
  induction d with
  | zero => intro x; simp [stepN, Nat.mod_one]
  | succ d ih =>
    intro x
    have e1 : x % 2 ^ (d + 1) / 2 = x / 2 % 2 ^ d := by
      rw [Nat.pow_succ, Nat.mul_comm, Nat.mod_mul_right_div_self]
    have e2 : x % 2 ^ (d + 1) % 2 = x % 2 := by
      rw [Nat.pow_succ]
      exact Nat.mod_mul_left_mod x (2 ^ d) 2
    have e3 : x / 2 / 2 ^ d = x / 2 ^ (d + 1) := by rw [Nat.div_div_eq_div_mul, Nat.pow_succ, Nat.mul_comm]
    simp only [stepN]
    have s1 : stepB x = x / 2 ^^^ (if x % 2 = 1 then 3988292384 else 0) := rfl
    have s2 : stepB (x % 2 ^ (d + 1)) = x / 2 % 2 ^ d ^^^ (if x % 2 = 1 then 3988292384 else 0) := by unfold stepB; rw [e1, e2]
    rw [s1, s2, stepN_xor, stepN_xor, ih (x / 2), e3, Nat.xor_assoc, Nat.xor_assoc, Nat.xor_comm (x / 2 ^ (d + 1))]
/-- a byte's part -/
def crcS : Nat → List Nat → Nat
  | n, [] => n
  | n, c :: cs => crcS (n / 256 ^^^ stepN 8 ((n ^^^ c) % 256)) cs
def crcI : Nat → List Nat → Nat
  | n, [] => n
  | n, c :: cs => crcI (stepN 8 (n ^^^ c)) cs
theorem byte_step (n c : Nat) (hc : c < 256) : n / 256 ^^^ stepN 8 ((n ^^^ c) % 256) = stepN 8 (n ^^^ c) := by
  rw [stepN_split 8 (n ^^^ c), Nat.xor_comm]
  congr 1
  have h : (n ^^^ c) / 2 ^ 8 = n / 2 ^ 8 ^^^ c / 2 ^ 8 := by
    simp only [← Nat.shiftRight_eq_div_pow]
    exact Nat.shiftRight_xor_distrib
  rw [h, show c / 2 ^ 8 = 0 by omega]
  simp
theorem crc_eq (l : List Nat) (h : ∀ c ∈ l, c < 256) : ∀ n, crcS n l = crcI n l := by
  induction l with
  | nil => exact fun _ => rfl
  | cons c cs ih => intro n; simp only [crcS, crcI]; rw [byte_step n c (h c (by simp)), ih (fun x hx => h x (by simp [hx]))]
def nats (l : List Int) : List Nat := l.map Int.toNat
theorem crcI_lt (l : List Nat) (hb : ∀ c ∈ l, c < 256) : ∀ n, n < 4294967296 → crcI n l < 4294967296 := by
  induction l with
  | nil => exact fun n h => h
  | cons c cs ih =>
    intro n h
    have hc := hb c (by simp)
    have hlt : n ^^^ c < 2 ^ 32 := Nat.xor_lt_two_pow (by omega) (by omega)
    exact ih (fun x hx => hb x (by simp [hx])) _ (stepN_lt 8 (by omega))
theorem nats_byt {l : List Int} (hb : ∀ x ∈ l, 0 ≤ x ∧ x ≤ 255) : ∀ c ∈ nats l, c < 256 := by
  intro c hc
  obtain ⟨x, hx, rfl⟩ := List.mem_map.1 hc
  have := hb x hx
  omega
/-- the sum of bytes -/
def crcV (l : List Int) : Int := ((crcI 4294967295 (nats l) ^^^ 4294967295 : Nat) : Int)
theorem crcV_range {l : List Int} (hb : ∀ x ∈ l, 0 ≤ x ∧ x ≤ 255) : 0 ≤ crcV l ∧ crcV l < 4294967296 := by
  have hlt := crcI_lt (nats l) (nats_byt hb) 4294967295 (by omega)
  have h : crcI 4294967295 (nats l) ^^^ 4294967295 < 2 ^ 32 := Nat.xor_lt_two_pow (by omega) (by omega)
  unfold crcV
  omega
end Go.Proofs.YtknlpjoidjgciaaDoorW.PrintCrc
