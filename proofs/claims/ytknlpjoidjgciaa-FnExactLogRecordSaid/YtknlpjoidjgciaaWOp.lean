/- An operation's bytes. No condition. -/
import Derived.Test.YtknlpjoidjgciaaWLe
import Derived.Test.YtknlpjoidjgciaaWGrow
import Derived.Test.YtknlpjoidjgciaaWCrc
namespace Go.Proofs.YtknlpjoidjgciaaW.PrintOp
open Go.RowKit Go.Proofs.YtknlpjoidjgciaaW.PrintWords Go.Proofs.YtknlpjoidjgciaaW.PrintHand Go.Proofs.YtknlpjoidjgciaaW.PrintHx Go.Proofs.YtknlpjoidjgciaaW.PrintLe Go.Proofs.YtknlpjoidjgciaaW.PrintCrc
set_option linter.unusedVariables false
theorem mod_div (v m : Int) (hm : 0 < m) : (v % (256 * m)) / 256 = (v / 256) % m := by
  have h1 := Int.emod_add_mul_ediv (v / 256) m
  have h2 := Int.emod_add_mul_ediv v 256
  have h3 := Int.emod_nonneg (v / 256) (show m ≠ 0 by omega)
  have h4 := Int.emod_lt_of_pos (v / 256) hm
  have h5 : v = (256 * ((v / 256) % m) + v % 256) + (256 * m) * ((v / 256) / m) := by
    rw [Int.mul_assoc]
    omega
  have h6 : v % (256 * m) = 256 * ((v / 256) % m) + v % 256 := by
    conv => lhs; rw [h5]
    rw [Int.add_mul_emod_self_left]
    exact Int.emod_eq_of_lt (by omega) (by omega)
  rw [h6]
  omega
theorem leB_mod (n : Nat) : ∀ (v : Int), leB (v % 256 ^ n) n = leB v n := by
  induction n with
  | zero => intro v; rfl
  | succ n ih =>
    intro v
    simp only [leB]
    rw [Int.pow_succ', mod_div v (256 ^ n) (p256 n), ih, Int.emod_emod_of_dvd _ (Int.dvd_mul_right 256 (256 ^ n))]
def opGood (a u g : Int) (p q : ByteArray) (l : List Int) : Bool := decide (0 ≤ a ∧ a ≤ 255) && (decide (0 ≤ u ∧ u ≤ 65535) && (decide (0 ≤ g ∧ g ≤ 65535) && (decide (p.size ≤ 512) && (decide (q.size ≤ 512) && decide (l.length ≤ 4096)))))
def opParts (a b c u g : Int) (p q : ByteArray) (l : List Int) : List (List Int) := [leB a 1, leB b 8, leB c 8, leB u 2, leB g 2, leB p.size 2, bytesOf p, leB q.size 2, bytesOf q, leB l.length 4, l]
def opBytes (a b c u g : Int) (p q : ByteArray) (l : List Int) : List Int := (opParts a b c u g p q l).flatten
theorem opBytes_length {a b c u g : Int} {p q : ByteArray} {l : List Int} : (opBytes a b c u g p q l).length = 29 + p.size + q.size + l.length := by
  simp [opBytes, opParts, leB_length, bytesOf_length]
  omega
theorem opGood_of {a u g : Int} {p q : ByteArray} {l : List Int} (h1 : 0 ≤ a ∧ a ≤ 255) (h2 : 0 ≤ u ∧ u ≤ 65535) (h3 : 0 ≤ g ∧ g ≤ 65535) (h4 : p.size ≤ 512) (h5 : q.size ≤ 512) (h6 : l.length ≤ 4096) : opGood a u g p q l = true := by
  simp [opGood, h1, h2, h3, h4, h5, h6]
theorem opGood_get {a u g : Int} {p q : ByteArray} {l : List Int} (h : opGood a u g p q l = true) : (0 ≤ a ∧ a ≤ 255) ∧ (0 ≤ u ∧ u ≤ 65535) ∧ (0 ≤ g ∧ g ≤ 65535) ∧ p.size ≤ 512 ∧ q.size ≤ 512 ∧ l.length ≤ 4096 := by
  simpa [opGood, and_assoc] using h
/-- A record of the log. -/
def recHead (n : Int) (ob : List Int) : List Int := ([leB n 8, leB ob.length 4] : List (List Int)).flatten
def recBytes (n : Int) (ob : List Int) : List Int := ([recHead n ob, leB (crcV ([recHead n ob, ob] : List (List Int)).flatten) 4, ob] : List (List Int)).flatten
theorem recHead_length {n : Int} {ob : List Int} : (recHead n ob).length = 12 := by simp [recHead, leB_length]
theorem recBytes_length {n : Int} {ob : List Int} : (recBytes n ob).length = 16 + ob.length := by
  simp [recBytes, leB_length, recHead_length]
  omega
theorem byt_append {a b : List Int} (ha : Byt a) (hb : Byt b) : Byt (a ++ b) := fun x hx => by
  rcases List.mem_append.1 hx with h | h
  · exact ha x h
  · exact hb x h
theorem recHead_byt {n : Int} {ob : List Int} : Byt (recHead n ob) := by
  have h := byt_append (leB_byt n 8) (leB_byt (ob.length : Int) 4)
  simpa [recHead] using h
theorem byt_bytesOf (s : ByteArray) : Byt (bytesOf s) := by
  intro x hx
  unfold bytesOf at hx
  obtain ⟨b, _, rfl⟩ := List.mem_map.1 hx
  have := b.toNat_lt
  omega
theorem opBytes_byt {a b c u g : Int} {p q : ByteArray} {l : List Int} (hl : Byt l) : Byt (opBytes a b c u g p q l) := by
  intro x hx
  unfold opBytes opParts at hx
  obtain ⟨y, hy, hxy⟩ := List.mem_flatten.1 hx
  simp only [List.mem_cons, List.not_mem_nil, or_false] at hy
  rcases hy with rfl | rfl | rfl | rfl | rfl | rfl | rfl | rfl | rfl | rfl | rfl
  · exact leB_byt _ _ x hxy
  · exact leB_byt _ _ x hxy
  · exact leB_byt _ _ x hxy
  · exact leB_byt _ _ x hxy
  · exact leB_byt _ _ x hxy
  · exact leB_byt _ _ x hxy
  · exact byt_bytesOf _ x hxy
  · exact leB_byt _ _ x hxy
  · exact byt_bytesOf _ x hxy
  · exact leB_byt _ _ x hxy
  · exact hl x hxy
end Go.Proofs.YtknlpjoidjgciaaW.PrintOp
