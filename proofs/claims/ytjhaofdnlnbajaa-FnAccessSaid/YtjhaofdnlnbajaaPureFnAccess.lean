/- The law FnAccess answers true for every code; no condition. -/
import Derived.Test.YtjhaofdnlnbajaaPFnAccessx2
import Derived.OpenShut
import Derived.Laws.BitsLemmas
import Derived.Lib.EndianBits
import Derived.OpenShut
import Derived.Laws.BitsLemmas
import Derived.Lib.EndianBits
import Derived.OpenShut
import Derived.Laws.BitsLemmas
import Derived.Lib.EndianBits
import Derived.OpenShut
import Derived.Laws.BitsLemmas
import Derived.Lib.EndianBits
import Derived.OpenShut
import Derived.Laws.BitsLemmas
import Derived.Lib.EndianBits
namespace Go.Proofs.Ytjhaofdnlnbajaa.Pure
open Go.RowKit Go.Proofs.Ytjhaofdnlnbajaa.PFnAccess Go.Proofs.YtjhaofdnlnbajaaW.PrintWords Go.Proofs.YtjhaofdnlnbajaaW.PrintLast
set_option linter.unusedVariables false
set_option linter.unusedVariables false
set_option linter.unusedVariables false
set_option linter.unusedVariables false
set_option linter.unusedVariables false

theorem w64 {x : Int} (h0 : -9223372036854775808 ≤ x) (h1 : x ≤ 9223372036854775807) : wrap64 x = x := by unfold wrap64; omega
theorem w64n {n : Nat} (h : n < 9223372036854775807) : wrap64 ((n : Int) + 1) = ((n + 1 : Nat) : Int) := by unfold wrap64; omega
theorem sucK {n k : Nat} (h : n < k) : ∃ m, k = m + 1 := ⟨k - 1, by omega⟩
theorem rdN (xs : List Int) (i : Nat) : rd xs (i : Int) = xs.getD i 0 := by simp [rd]
theorem rd_some {xs : List Int} {i : Nat} (h : i < xs.length) : rd xs (i : Int) = xs[i] := by rw [rdN, List.getD_eq_getElem?_getD, List.getElem?_eq_getElem h]; rfl

theorem and_low (m w : Int) (h0 : 0 ≤ w) (h7 : w ≤ 7) : Go.bits .and .i64 m w = Go.bits .and .i64 (m % 8) w := by
  obtain ⟨n, rfl⟩ := Int.eq_ofNat_of_zero_le h0
  have hn : n < 8 := by omega
  have key : (BitVec.ofInt 64 m &&& BitVec.ofInt 64 (n : Int)) = (BitVec.ofInt 64 (m % 8) &&& BitVec.ofInt 64 (n : Int)) := by
    apply BitVec.eq_of_toNat_eq
    rw [BitVec.toNat_and, BitVec.toNat_and, BitVec.toNat_ofInt, BitVec.toNat_ofInt, BitVec.toNat_ofInt]
    have e1 : ((n : Int) % ((2 ^ 64 : Nat) : Int)).toNat = n := by omega
    have e2 : (m % 8 % ((2 ^ 64 : Nat) : Int)).toNat = (m % ((2 ^ 64 : Nat) : Int)).toNat % 8 := by omega
    rw [e1, e2]
    generalize (m % ((2 ^ 64 : Nat) : Int)).toNat = a
    have e3 : n = 7 &&& n := by
      have : ∀ q : Fin 8, q.val = 7 &&& q.val := by decide
      exact this ⟨n, hn⟩
    have e4 : a &&& 7 = a % 8 := Nat.and_two_pow_sub_one_eq_mod a 3
    rw [← e4, Nat.and_assoc, ← e3]
  exact congrArg (fun v : BitVec 64 => IntKind.i64.wrap ((v.toNat : Nat) : Int)) key
theorem and_one (x : Int) : Go.bits .and .i64 x 1 = x % 2 := by
  rw [and_low x 1 (by omega) (by omega)]
  have h : ∀ q : Fin 8, Go.bits .and .i64 ((q.val : Nat) : Int) 1 = ((q.val : Nat) : Int) % 2 := by decide +kernel
  have := h ⟨(x % 8).toNat, by omega⟩
  simp only [] at this
  rw [show (((x % 8).toNat : Nat) : Int) = x % 8 by omega] at this
  rw [this]
  omega
theorem shr_at (x : Int) (i : Nat) (h : i ≤ 2) : shr .i64 x (i : Int) = x / 2 ^ i := by
  unfold shr
  rw [Int.toNat_natCast, Nat.min_eq_left (by simp [IntKind.bits]; omega)]
/-- three bits of want are bits of m -/
def bitsB (m w : Int) : Bool := !((w % 2 == 1 && m % 2 == 0) || (w / 2 % 2 == 1 && m / 2 % 2 == 0) || (w / 4 % 2 == 1 && m / 4 % 2 == 0))
theorem bitsB_eq (m w : Int) (h0 : 0 ≤ w) (h7 : w ≤ 7) : (Go.bits .and .i64 m w == w) = bitsB m w := by
  unfold bitsB
  rw [and_low m w h0 h7]
  have h : ∀ r q : Fin 8, (!(((q.val : Int) % 2 == 1 && (r.val : Int) % 2 == 0) || ((q.val : Int) / 2 % 2 == 1 && (r.val : Int) / 2 % 2 == 0) || ((q.val : Int) / 4 % 2 == 1 && (r.val : Int) / 4 % 2 == 0))) = (Go.bits .and .i64 (r.val : Int) (q.val : Int) == (q.val : Int)) := by decide +kernel
  have := h ⟨(m % 8).toNat, by omega⟩ ⟨w.toNat, by omega⟩
  simp only [] at this
  rw [show (((m % 8).toNat : Nat) : Int) = m % 8 by omega, show ((w.toNat : Nat) : Int) = w by omega] at this
  rw [← this, show m % 8 % 2 = m % 2 by omega, show m % 8 / 2 % 2 = m / 2 % 2 by omega, show m % 8 / 4 % 2 = m / 4 % 2 by omega]

/-- what both answer -/
def mayR (mode nu ng uid gid want : Int) : Bool := if 0 ≤ want ∧ want ≤ 7 then (if uid = 0 then true else if uid = nu then Go.bits .and .i64 (mode / 64) want == want else if gid = ng then Go.bits .and .i64 (mode / 8) want == want else Go.bits .and .i64 mode want == want) else false
theorem impl_f (a0 a1 mode nu ng a5 a6 a7 a8 : Int) (l : List Int) (uid gid want : Int) : impl_MayAccess.f a0 a1 mode nu ng a5 a6 a7 a8 l uid gid want = some (mayR mode nu ng uid gid want) := by
  unfold impl_MayAccess.f impl_within.f mayR
  by_cases h0 : want ≥ 0
  · by_cases h7 : want ≤ 7
    · rw [if_pos h0, if_pos (And.intro (show 0 ≤ want from h0) h7)]
      simp only [Option.bind_some, decide_eq_true h7, if_true]
      repeat (split <;> try rfl)
    · rw [if_pos h0, if_neg (show ¬ (0 ≤ want ∧ want ≤ 7) from fun h => h7 h.2)]
      simp [h7]
  · rw [if_neg h0, if_neg (show ¬ (0 ≤ want ∧ want ≤ 7) from fun h => h0 h.1)]
    simp

/-- a draw: a number below n, the source goes on -/
theorem src_N (b : List Int) (hb : b.length ≤ 1048576) (i x n : Int) (hi : 0 ≤ i ∧ i ≤ b.length) (hn : 1 < n) (hn2 : n ≤ 4294967296) :
    ∃ v i' x', spec_l01Src_N.f b i x n = some (v, i', x') ∧ (0 ≤ v ∧ v < n) ∧ (0 ≤ i' ∧ i' ≤ b.length) := by
  have hn3 : IntKind.u64.wrap n = n := by rw [IntKind.wrap_u64]; omega
  have key : ∀ (y : Int) (i' : Int), (0 ≤ i' ∧ i' ≤ b.length) → ∃ v i'' x', (if n ≤ 1 then (some (0, i', IntKind.u64.wrap ((IntKind.u64.wrap (y * 6364136223846793005)) + 1442695040888963407))) else (if (IntKind.u64.wrap n) = 0 then (none) else (some (wrap64 (Int.tmod ((IntKind.u64.wrap ((IntKind.u64.wrap (y * 6364136223846793005)) + 1442695040888963407)) / 8589934592) (IntKind.u64.wrap n)), i', IntKind.u64.wrap ((IntKind.u64.wrap (y * 6364136223846793005)) + 1442695040888963407))))) = some (v, i'', x') ∧ (0 ≤ v ∧ v < n) ∧ (0 ≤ i'' ∧ i'' ≤ b.length) := by
    intro y i' hi'
    rw [if_neg (by omega), hn3, if_neg (by omega)]
    generalize hz : IntKind.u64.wrap (IntKind.u64.wrap (y * 6364136223846793005) + 1442695040888963407) = z
    have hz0 : 0 ≤ z := by rw [← hz, IntKind.wrap_u64]; omega
    have e : Int.tmod (z / 8589934592) n = (z / 8589934592) % n := Int.tmod_eq_emod_of_nonneg (by omega)
    have h1 := Int.emod_nonneg (z / 8589934592) (show n ≠ 0 by omega)
    have h2 := Int.emod_lt_of_pos (z / 8589934592) (show 0 < n by omega)
    rw [e, w64 (by omega) (by omega)]
    exact ⟨_, _, _, rfl, ⟨h1, h2⟩, hi'⟩
  unfold spec_l01Src_N.f
  by_cases h : i < (b.length : Int)
  · rw [if_pos h, if_pos hi.1, w64 (x := i + 1) (by omega) (by omega)]
    exact key _ _ (by omega)
  · rw [if_neg h]
    exact key _ _ hi
/-- what a user who isn't root may -/
def cls (mode nu ng uid gid : Int) : Int := if uid = nu then mode / 64 else if gid = ng then mode / 8 else mode
theorem mayR_cls (mode nu ng uid gid want : Int) (hu : uid ≠ 0) (h0 : 0 ≤ want) (h7 : want ≤ 7) : mayR mode nu ng uid gid want = bitsB (cls mode nu ng uid gid) want := by
  unfold mayR cls
  rw [if_pos ⟨h0, h7⟩, if_neg hu]
  split
  · exact bitsB_eq _ _ h0 h7
  · split
    · exact bitsB_eq _ _ h0 h7
    · exact bitsB_eq _ _ h0 h7
theorem mayR_root (mode nu ng gid want : Int) (h0 : 0 ≤ want) (h7 : want ≤ 7) : mayR mode nu ng 0 gid want = true := by
  unfold mayR
  rw [if_pos ⟨h0, h7⟩, if_pos rfl]
theorem bitsB_parts (m w : Int) (h0 : 0 ≤ w) (h7 : w ≤ 7) : (((!decide (w % 2 = 1)) || bitsB m 1) && ((!decide (w / 2 % 2 = 1)) || bitsB m 2) && ((!decide (w / 4 % 2 = 1)) || bitsB m 4)) = bitsB m w := by
  have h : w = 0 ∨ w = 1 ∨ w = 2 ∨ w = 3 ∨ w = 4 ∨ w = 5 ∨ w = 6 ∨ w = 7 := by omega
  rcases h with rfl | rfl | rfl | rfl | rfl | rfl | rfl | rfl <;> simp [bitsB]
theorem or_bit (a b : Nat) (ha : a < 512) (hb : b < 512) (j : Nat) (h : a / 2 ^ j % 2 = 1) : (a ||| b) / 2 ^ j % 2 = 1 := by
  have e : (a ||| b).testBit j = true := by
    rw [Nat.testBit_or]
    have : a.testBit j = true := by rw [Nat.testBit_eq_decide_div_mod_eq]; simpa using h
    rw [this]
    rfl
  rw [Nat.testBit_eq_decide_div_mod_eq] at e
  simpa using e
theorem or_i64 (a b : Nat) (ha : a < 512) (hb : b < 512) : Go.bits .or .i64 (a : Int) (b : Int) = ((a ||| b : Nat) : Int) :=
  (bits_nat .i64 63 (by decide) (fun n h0 h1 => by rw [IntKind.wrap_i64]; omega) a b (by omega) (by omega)).2
theorem two_ (x : Int) : x % 2 = 0 ∨ x % 2 = 1 := by omega
theorem bitsB_mono (m m' w : Int) (h1 : m % 2 = 1 → m' % 2 = 1) (h2 : m / 2 % 2 = 1 → m' / 2 % 2 = 1) (h3 : m / 4 % 2 = 1 → m' / 4 % 2 = 1) (h : bitsB m w = true) : bitsB m' w = true := by
  unfold bitsB at *
  have e1 := two_ m
  have e2 := two_ m'
  have e3 := two_ (m / 2)
  have e4 := two_ (m' / 2)
  have e5 := two_ (m / 4)
  have e6 := two_ (m' / 4)
  simp only [Bool.not_eq_true', Bool.or_eq_false_iff, Bool.and_eq_false_iff, beq_eq_false_iff_ne] at h ⊢
  obtain ⟨⟨p1, p2⟩, p3⟩ := h
  refine ⟨⟨?_, ?_⟩, ?_⟩
  · clear p2 p3 h2 h3
    rcases p1 with p | p
    · exact .inl p
    · exact .inr (by have := h1 (by omega); omega)
  · clear p1 p3 h1 h3
    rcases p2 with p | p
    · exact .inl p
    · exact .inr (by have := h2 (by omega); omega)
  · clear p1 p2 h1 h2
    rcases p3 with p | p
    · exact .inl p
    · exact .inr (by have := h3 (by omega); omega)
theorem bitsB_congr (m m' w : Int) (h1 : m % 2 = m' % 2) (h2 : m / 2 % 2 = m' / 2 % 2) (h3 : m / 4 % 2 = m' / 4 % 2) : bitsB m w = bitsB m' w := by
  unfold bitsB
  rw [h1, h2, h3]
theorem or_i (a b : Nat) (ha : a < 512) (hb : b < 512) (j q : Nat) (hq : 2 ^ j = q) (h : (a : Int) / (q : Int) % 2 = 1) : ((a ||| b : Nat) : Int) / (q : Int) % 2 = 1 := by
  have h1 := or_bit a b ha hb j
  rw [hq] at h1
  have h2 : a / q % 2 = 1 := by exact_mod_cast h
  exact_mod_cast h1 h2
theorem d2 (x : Int) (q q2 q4 : Int) (h0 : 0 ≤ q) (h2 : q2 = q * 2) (h4 : q4 = q * 4) : x / q / 2 = x / q2 ∧ x / q / 4 = x / q4 := by
  subst h2 h4
  exact ⟨Int.ediv_ediv_of_nonneg h0, Int.ediv_ediv_of_nonneg h0⟩
theorem or_cls (a b : Nat) (ha : a < 512) (hb : b < 512) (want : Int) (j q q2 q4 : Nat) (hq : 2 ^ j = q) (hq2 : 2 ^ (j + 1) = q2) (hq4 : 2 ^ (j + 2) = q4) (h2 : q2 = q * 2) (h4 : q4 = q * 4) (h : bitsB ((a : Int) / (q : Int)) want = true) : bitsB (((a ||| b : Nat) : Int) / (q : Int)) want = true := by
  have e := d2 (a : Int) q q2 q4 (by omega) (by exact_mod_cast h2) (by exact_mod_cast h4)
  have e' := d2 ((a ||| b : Nat) : Int) q q2 q4 (by omega) (by exact_mod_cast h2) (by exact_mod_cast h4)
  refine bitsB_mono _ _ _ (or_i a b ha hb j q hq) ?_ ?_ h
  · rw [e.1, e'.1]; exact or_i a b ha hb (j + 1) q2 hq2
  · rw [e.2, e'.2]; exact or_i a b ha hb (j + 2) q4 hq4
/-- more bits never take away -/
theorem more_all (mode r nu ng uid gid want : Int) (hm : 0 ≤ mode ∧ mode < 512) (hr : 0 ≤ r ∧ r < 512) (h : bitsB (cls mode nu ng uid gid) want = true) : bitsB (cls (Go.bits .or .i64 mode r) nu ng uid gid) want = true := by
  obtain ⟨a, rfl⟩ := Int.eq_ofNat_of_zero_le hm.1
  obtain ⟨b, rfl⟩ := Int.eq_ofNat_of_zero_le hr.1
  have ha : a < 512 := by omega
  have hb : b < 512 := by omega
  rw [or_i64 a b ha hb]
  unfold cls at *
  by_cases hc : uid = nu
  · rw [if_pos hc] at h ⊢
    exact or_cls a b ha hb want 6 64 128 256 rfl rfl rfl rfl rfl h
  · rw [if_neg hc] at h ⊢
    by_cases hd : gid = ng
    · rw [if_pos hd] at h ⊢
      exact or_cls a b ha hb want 3 8 16 32 rfl rfl rfl rfl rfl h
    · rw [if_neg hd] at h ⊢
      have := or_cls a b ha hb want 0 1 2 4 rfl rfl rfl rfl rfl
      rw [show ((1 : Nat) : Int) = 1 from rfl, Int.ediv_one, Int.ediv_one] at this
      exact this h
theorem and_bit (a m j : Nat) (hm : m.testBit j = true) : (a &&& m) / 2 ^ j % 2 = a / 2 ^ j % 2 := by
  have h := Nat.testBit_and a m j
  rw [hm, Bool.and_true, Nat.testBit_eq_decide_div_mod_eq, Nat.testBit_eq_decide_div_mod_eq, decide_eq_decide] at h
  omega
theorem and_i64 (a b : Nat) (ha : a < 512) (hb : b < 512) : Go.bits .and .i64 (a : Int) (b : Int) = ((a &&& b : Nat) : Int) :=
  (bits_nat .i64 63 (by decide) (fun n h0 h1 => by rw [IntKind.wrap_i64]; omega) a b (by omega) (by omega)).1
theorem and_i (a m : Nat) (j q : Nat) (hq : 2 ^ j = q) (hm : m.testBit j = true) : ((a &&& m : Nat) : Int) / (q : Int) % 2 = (a : Int) / (q : Int) % 2 := by
  have h1 := and_bit a m j hm
  rw [hq] at h1
  exact_mod_cast h1
theorem and_cls (a m : Nat) (want : Int) (j q q2 q4 : Nat) (hq : 2 ^ j = q) (hq2 : 2 ^ (j + 1) = q2) (hq4 : 2 ^ (j + 2) = q4) (h2 : q2 = q * 2) (h4 : q4 = q * 4) (m0 : m.testBit j = true) (m1 : m.testBit (j + 1) = true) (m2 : m.testBit (j + 2) = true) :
    bitsB (((a &&& m : Nat) : Int) / (q : Int)) want = bitsB ((a : Int) / (q : Int)) want := by
  have e := d2 (a : Int) q q2 q4 (by omega) (by exact_mod_cast h2) (by exact_mod_cast h4)
  have e' := d2 ((a &&& m : Nat) : Int) q q2 q4 (by omega) (by exact_mod_cast h2) (by exact_mod_cast h4)
  refine bitsB_congr _ _ _ (and_i a m j q hq m0) ?_ ?_
  · rw [e.1, e'.1]; exact and_i a m (j + 1) q2 hq2 m1
  · rw [e.2, e'.2]; exact and_i a m (j + 2) q4 hq4 m2
/-- one class counts -/
theorem only_all (mode nu ng uid gid want sh : Int) (hm : 0 ≤ mode ∧ mode < 512) (hs : sh = if uid = nu then 6 else if gid = ng then 3 else 0) : bitsB (cls (Go.bits .and .i64 mode (shl .i64 7 sh)) nu ng uid gid) want = bitsB (cls mode nu ng uid gid) want := by
  obtain ⟨a, rfl⟩ := Int.eq_ofNat_of_zero_le hm.1
  have ha : a < 512 := by omega
  have s6 : shl .i64 7 6 = ((448 : Nat) : Int) := by decide +kernel
  have s3 : shl .i64 7 3 = ((56 : Nat) : Int) := by decide +kernel
  have s0 : shl .i64 7 0 = ((7 : Nat) : Int) := by decide +kernel
  subst hs
  unfold cls
  by_cases hc : uid = nu
  · simp only [if_pos hc]
    rw [s6, and_i64 a 448 ha (by omega)]
    exact and_cls a 448 want 6 64 128 256 rfl rfl rfl rfl rfl (by decide) (by decide) (by decide)
  · simp only [if_neg hc]
    by_cases hd : gid = ng
    · simp only [if_pos hd]
      rw [s3, and_i64 a 56 ha (by omega)]
      exact and_cls a 56 want 3 8 16 32 rfl rfl rfl rfl rfl (by decide) (by decide) (by decide)
    · simp only [if_neg hd]
      rw [s0, and_i64 a 7 ha (by omega)]
      have := and_cls a 7 want 0 1 2 4 rfl rfl rfl rfl rfl (by decide) (by decide) (by decide)
      rw [show ((1 : Nat) : Int) = 1 from rfl, Int.ediv_one, Int.ediv_one] at this
      exact this
section
variable (x4 uid gid want : Int) (b : List Int) (si sx a0 a1 mode nu ng a5 a6 a7 a8 : Int)
theorem l1_step (k : Nat) (all : Bool) (j : Nat) (w : Int) (hj : j < 3) (hw : rd [1, 2, 4] (j : Int) = w) (hw0 : 0 < w) (hw4 : w ≤ 4) (h0 : 0 ≤ want) (h7 : want ≤ 7) :
    laws_FnAccess.l1 (k + 2) x4 uid gid want all [1, 2, 4] 3 (j : Int) b si sx a0 a1 mode nu ng a5 a6 a7 a8 =
      laws_FnAccess.l1 k x4 uid gid want (all && ((!decide (want / w % 2 = 1)) || mayR mode nu ng uid gid w)) [1, 2, 4] 3 ((j + 1 : Nat) : Int) b si sx a0 a1 mode nu ng a5 a6 a7 a8 := by
  have e1 : Int.tmod (wrap64 (Int.tdiv want w)) 2 = want / w % 2 := by
    have hq : want / w ≤ want := Int.ediv_le_self _ h0
    have hq0 : 0 ≤ want / w := Int.ediv_nonneg h0 (by omega)
    rw [Int.tdiv_eq_ediv_of_nonneg h0, w64 (by omega) (by omega), Int.tmod_eq_emod_of_nonneg hq0]
  rw [laws_FnAccess.l1]
  rw [if_pos (by omega), if_pos (by omega), if_pos (by simp; omega), hw, if_neg (by omega), e1]
  by_cases hp : want / w % 2 = 1
  · rw [if_pos hp, impl_f]
    simp only [Option.bind_some]
    rw [laws_FnAccess.j2, w64n (by omega)]
    cases hm : mayR mode nu ng uid gid w
    · rw [if_pos (by rfl)]
      simp [hp]
    · rw [if_neg (by decide)]
      simp
  · rw [if_neg hp, laws_FnAccess.j2, if_neg (by decide), w64n (by omega)]
    simp [hp]
end
theorem round (b : List Int) (hb : b.length ≤ 1048576) (k : Nat) (i : Nat) (si sx : Int) (hi : i < 20) (hsi : 0 ≤ si ∧ si ≤ b.length) :
    ∃ si' sx' : Int, (0 ≤ si' ∧ si' ≤ b.length) ∧ laws_FnAccess.l0 (k + 11) (i : Int) b si sx = laws_FnAccess.l0 k ((i + 1 : Nat) : Int) b si' sx' := by
  obtain ⟨mode, i1, x1, n1, hmode, hi1⟩ := src_N b hb si sx 512 hsi (by omega) (by omega)
  obtain ⟨u, i2, x2, n2, hu, hi2⟩ := src_N b hb i1 x1 3 hi1 (by omega) (by omega)
  obtain ⟨g, i3, x3, n3, hg, hi3⟩ := src_N b hb i2 x2 3 hi2 (by omega) (by omega)
  obtain ⟨uid, i4, x4, n4, huid, hi4⟩ := src_N b hb i3 x3 3 hi3 (by omega) (by omega)
  obtain ⟨gid, i5, x5, n5, hgid, hi5⟩ := src_N b hb i4 x4 3 hi4 (by omega) (by omega)
  obtain ⟨want, i6, x6, n6, hwant, hi6⟩ := src_N b hb i5 x5 8 hi5 (by omega) (by omega)
  obtain ⟨r, i7, x7, n7, hr, hi7⟩ := src_N b hb i6 x6 512 hi6 (by omega) (by omega)
  refine ⟨i7, x7, hi7, ?_⟩
  have e3 : ((([1, 2, 4] : List Int)).length : Int) = 3 := rfl
  rw [laws_FnAccess.l0, if_pos (by omega), n1]
  simp only [Option.bind_some]
  rw [n2]; simp only [Option.bind_some]
  rw [n3]; simp only [Option.bind_some]
  rw [n4]; simp only [Option.bind_some]
  rw [n5]; simp only [Option.bind_some]
  rw [n6]; simp only [Option.bind_some]
  rw [e3, w64 (x := 1 + uid) (by omega) (by omega), w64 (x := 1 + gid) (by omega) (by omega), w64 (x := 1 + u) (by omega) (by omega), w64 (x := 1 + g) (by omega) (by omega)]
  have hu0 : 1 + uid ≠ 0 := by omega
  have st := fun (k : Nat) (all : Bool) (j : Nat) (w : Int) hj hw hw0 hw4 => l1_step (i : Int) (1 + uid) (1 + gid) want b i6 x6 0 0 mode (1 + u) (1 + g) 0 0 0 0 k all j w hj hw hw0 hw4 (by omega) (by omega)
  have s0 := st (k + 8) true 0 1 (by omega) rfl (by omega) (by omega)
  have s1 := fun all => st (k + 6) all 1 2 (by omega) rfl (by omega) (by omega)
  have s2 := fun all => st (k + 4) all 2 4 (by omega) rfl (by omega) (by omega)
  rw [show ((0 : Nat) : Int) = 0 from rfl] at s0
  rw [s0, s1, s2]
  have hall : ((true && ((!decide (want / 1 % 2 = 1)) || mayR mode (1 + u) (1 + g) (1 + uid) (1 + gid) 1)) && ((!decide (want / 2 % 2 = 1)) || mayR mode (1 + u) (1 + g) (1 + uid) (1 + gid) 2) && ((!decide (want / 4 % 2 = 1)) || mayR mode (1 + u) (1 + g) (1 + uid) (1 + gid) 4)) = bitsB (cls mode (1 + u) (1 + g) (1 + uid) (1 + gid)) want := by
    rw [mayR_cls _ _ _ _ _ 1 hu0 (by omega) (by omega), mayR_cls _ _ _ _ _ 2 hu0 (by omega) (by omega), mayR_cls _ _ _ _ _ 4 hu0 (by omega) (by omega), Bool.true_and, Int.ediv_one]
    exact bitsB_parts _ want (by omega) (by omega)
  rw [hall]
  have hmay := mayR_cls mode (1 + u) (1 + g) (1 + uid) (1 + gid) want hu0 (by omega) (by omega)
  have hroot := mayR_root mode (1 + u) (1 + g) (1 + gid) want (by omega) (by omega)
  generalize hA : bitsB (cls mode (1 + u) (1 + g) (1 + uid) (1 + gid)) want = A at *
  have hmore := fun (h : A = true) => more_all mode r (1 + u) (1 + g) (1 + uid) (1 + gid) want (by omega) (by omega) (hA.trans h)
  have honly := fun sh hs => (only_all mode (1 + u) (1 + g) (1 + uid) (1 + gid) want sh (by omega) hs).trans hA
  rw [laws_FnAccess.l1, if_neg (by omega), impl_f]
  simp only [Option.bind_some]
  rw [hmay, if_neg (by simp), impl_f]
  simp only [Option.bind_some]
  rw [hroot, laws_FnAccess.j3, if_neg (by decide), n7]
  simp only [Option.bind_some]
  have j5 : ∀ sh : Int, 0 ≤ sh → (sh = if 1 + uid = 1 + u then 6 else if 1 + gid = 1 + g then 3 else 0) → laws_FnAccess.j5 (k + 1) (i : Int) (1 + uid) (1 + gid) want A sh b i7 x7 0 0 mode (1 + u) (1 + g) 0 0 0 0 = laws_FnAccess.l0 k ((i + 1 : Nat) : Int) b i7 x7 := by
    intro sh h0 hs
    rw [laws_FnAccess.j5, if_pos h0, impl_f]
    simp only [Option.bind_some]
    rw [mayR_cls _ _ _ _ _ want hu0 (by omega) (by omega), honly sh hs, if_neg (by simp), w64n (by omega)]
  have j4 : laws_FnAccess.j4 (k + 2) (i : Int) (1 + uid) (1 + gid) want A false b i7 x7 0 0 mode (1 + u) (1 + g) 0 0 0 0 = laws_FnAccess.l0 k ((i + 1 : Nat) : Int) b i7 x7 := by
    rw [laws_FnAccess.j4, if_neg (by decide)]
    by_cases hc : 1 + uid = 1 + u
    · rw [if_pos hc, j5 6 (by omega) (by rw [if_pos hc])]
    · rw [if_neg hc]
      by_cases hd : 1 + gid = 1 + g
      · rw [if_pos hd, j5 3 (by omega) (by rw [if_neg hc, if_pos hd])]
      · rw [if_neg hd, j5 0 (by omega) (by rw [if_neg hc, if_neg hd])]
  by_cases ht : A = true
  · rw [if_pos ht, impl_f]
    simp only [Option.bind_some]
    rw [mayR_cls _ _ _ _ _ want hu0 (by omega) (by omega), hmore ht]
    exact j4
  · rw [if_neg ht]
    exact j4
theorem loop (b : List Int) (hb : b.length ≤ 1048576) : ∀ (d i k : Nat) (si sx : Int), i + d = 20 → 11 * d < k → (0 ≤ si ∧ si ≤ b.length) → laws_FnAccess.l0 k (i : Int) b si sx = some true
  | 0, i, k, si, sx, h1, h2, h3 => by
    obtain ⟨k, rfl⟩ := sucK h2
    rw [laws_FnAccess.l0, if_neg (by omega)]
  | d + 1, i, k, si, sx, h1, h2, h3 => by
    obtain ⟨k, rfl⟩ : ∃ j, k = j + 11 := ⟨k - 11, by omega⟩
    obtain ⟨si', sx', h4, h5⟩ := round b hb k i si sx (by omega) h3
    rw [h5]
    exact loop b hb d (i + 1) k si' sx' (by omega) (by omega) h4
theorem law_f (l : List Int) (k : Nat) (hk : 299 < k) : laws_FnAccess.f k l = some true := by
  unfold laws_FnAccess.f spec_L01Draw.f
  by_cases hl : (l.length : Int) > 1048576
  · rw [if_pos hl]
  · rw [if_neg hl]
    simp only [Option.bind_some]
    exact loop l (by omega) 20 0 k 0 _ (by omega) (by omega) (by omega)
theorem FnAccess : laws_FnAccess.Pure := fun l _ _ _ => ⟨300, law_f l 300 (by omega)⟩

end Go.Proofs.Ytjhaofdnlnbajaa.Pure
