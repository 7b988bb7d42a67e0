/- A volume's record chosen out of two blocks; a volume's cells. No condition. -/
import Derived.Test.YtkghgjehjchajaaDoorWFsd
import Derived.Test.YtkghgjehjchajaaDoorWTab3
import Derived.Laws.Tables
namespace Go.Proofs.YtkghgjehjchajaaDoorW.PrintChs
open Go Go.RowKit Go.Proofs.YtkghgjehjchajaaDoorW.PrintWords Go.Proofs.YtkghgjehjchajaaDoorW.PrintHand Go.Proofs.YtkghgjehjchajaaDoorW.PrintHx Go.Proofs.YtkghgjehjchajaaDoorW.PrintLe Go.Proofs.YtkghgjehjchajaaDoorW.PrintIno Go.Proofs.YtkghgjehjchajaaDoorW.PrintDec Go.Proofs.YtkghgjehjchajaaDoorW.PrintFsi Go.Proofs.YtkghgjehjchajaaDoorW.PrintFsb Go.Proofs.YtkghgjehjchajaaDoorW.PrintFsd Go.Proofs.YtkghgjehjchajaaDoorW.PrintCrc
set_option linter.unusedVariables false
set_option linter.unusedSimpArgs false
section
variable {P : Program} {ops : Array Oper} {rest : List Oper} {o : Oper} {a : Act} {w : World} {Q : Exit → Act → World → Prop}
/-- A value built. -/
theorem hx_build (hgd : o.guard = none) (t : TypeId) (ps : Array (Nat × Operand)) (ho : o.op = .build t ps) (vs : Array (Nat × Value)) (hv : (ps.map fun (i, x) => (i, a.eval x)) = vs) (v : Value) (hr : ∀ w, (Instr.build t vs).run P w = .ok v w)
    (h : wpList P ops Q rest (a.put o.dst v) w) : wpList P ops Q (o :: rest) a w := by
  refine wpList_plain hgd fun K hK => ?_
  unfold Oper.wp execOp
  simp only [ho, hv, Sem.run_bind, hr, Result.andThen_ok, Sem.run_pure]
  exact hK _ _ h
end
def blk (l : List Int) (b : Nat) : List Int := seg l (512 * b) 512
def decA (l : List Int) (b : Nat) : List Int × Int := decF (fsA (blk l b)) (blk l b)
def decB (l : List Int) (b : Nat) : List Int × Int := decF (fsB (blk l b)) (blk l b)
theorem blk_byt {l : List Int} (h : Byt l) (b : Nat) : Byt (blk l b) := seg_byt h _ _
theorem dec_same {l : List Int} (h : Byt l) (b : Nat) : decA l b = decB l b := decF_same (blk_byt h b)
theorem decF_length {r l : List Int} (h : r.length = 68) : (decF r l).1.length = 68 := by
  unfold decF
  split
  · exact h
  · simp
/-- The number of blocks of an image of a right size, or 0. -/
def sizeN (l : List Int) : Int := if l.length % 512 = 0 ∧ 64 ≤ l.length / 512 ∧ l.length / 512 ≤ 2048 then ((l.length / 512 : Nat) : Int) else 0
theorem sizeN_pos {l : List Int} (h : sizeN l ≠ 0) : sizeN l = ((l.length / 512 : Nat) : Int) ∧ l.length % 512 = 0 ∧ 64 ≤ l.length / 512 ∧ l.length / 512 ≤ 2048 := by
  unfold sizeN at h ⊢
  split at h
  · rename_i c
    rw [if_pos c]
    exact ⟨rfl, c⟩
  · exact absurd rfl h
/-- The choice so far: the record, its place, whether there is one. -/
def stN (d : Nat → List Int × Int) (n : Int) : Nat → List Int × Int × Bool
  | 0 => (List.replicate 68 0, 0, false)
  | j + 1 => if ((d j).2 = 0 ∧ (d j).1.getD 1 0 = n) ∧ ((stN d n j).2.2 = false ∨ (stN d n j).1.getD 0 0 < (d j).1.getD 0 0) then ((d j).1, (j : Int), true) else stN d n j
def chosen (s : List Int × Int × Bool) : List Int × Int × Int := if s.2.2 = true then (s.1, s.2.1, 0) else (List.replicate 68 0, 0, 21)
def chooseF (d : Nat → List Int × Int) (l : List Int) : List Int × Int × Int := if sizeN l = 0 then (List.replicate 68 0, 0, 7) else chosen (stN d (sizeN l) 2)
theorem stN_length {d : Nat → List Int × Int} (hd : ∀ j, (d j).1.length = 68) (n : Int) : ∀ j, (stN d n j).1.length = 68
  | 0 => by simp [stN]
  | j + 1 => by
    unfold stN
    split
    · exact hd j
    · exact stN_length hd n j
theorem stN_skip {d : Nat → List Int × Int} {n : Int} {j : Nat} {L : List Int} {s : Int} {f : Bool} {r : List Int} {k : Int} (h : stN d n j = (L, s, f)) (hd : d j = (r, k)) (hc : ¬ ((k = 0 ∧ r.getD 1 0 = n) ∧ (f = false ∨ L.getD 0 0 < r.getD 0 0))) : stN d n (j + 1) = (L, s, f) := by
  unfold stN
  rw [h, hd, if_neg hc]
theorem stN_use {d : Nat → List Int × Int} {n : Int} {j : Nat} {L : List Int} {s : Int} {f : Bool} {r : List Int} {k : Int} (h : stN d n j = (L, s, f)) (hd : d j = (r, k)) (hc : (k = 0 ∧ r.getD 1 0 = n) ∧ (f = false ∨ L.getD 0 0 < r.getD 0 0)) : stN d n (j + 1) = (r, (j : Int), true) := by
  unfold stN
  rw [h, hd, if_pos hc]
theorem chooseF_length {d : Nat → List Int × Int} (hd : ∀ j, (d j).1.length = 68) (l : List Int) : (chooseF d l).1.length = 68 := by
  unfold chooseF chosen
  split
  · simp
  · split
    · exact stN_length hd _ 2
    · simp
/-- A volume's cells. -/
def volC (A : Option Addr) (n c : Nat) (L : List Int) (a : Int) : List Value := .slice A n c :: (nums .i64 L ++ [.int .i64 a, .int .u32 0, .int .i32 0, .int .u32 0, .slice none 0 0, .nilIface])
theorem volC_size {A : Option Addr} {n c : Nat} {L : List Int} {a : Int} (h : L.length = 68) : (volC A n c L a).toArray.size = 75 := by simp [volC, nums, h]
theorem volC_at {A : Option Addr} {n c : Nat} {L : List Int} {a : Int} (h : L.length = 68) : (volC A n c L a).toArray[69]? = some (.int .i64 a) := by
  rw [List.getElem?_toArray, volC, List.getElem?_cons_succ, List.getElem?_append_right (by simp [nums, h])]
  simp [nums, h]
theorem volC_rec {A : Option Addr} {n c : Nat} {L : List Int} {a : Int} (h : L.length = 68) (i : Nat) (hi : i < 68) : (volC A n c L a).toArray[1 + i]? = some (.int .i64 (L.getD i 0)) := by
  rw [List.getElem?_toArray, show 1 + i = i + 1 by omega, volC, List.getElem?_cons_succ, List.getElem?_append_left (by simp [nums, h, hi])]
  simp [nums, List.getElem?_eq_getElem (show i < L.length by omega)]
theorem volC_one (A : Option Addr) (n c : Nat) (L : List Int) (a : Int) : (volC A n c L a).toArray.toList.all (·.oneCell') = true := by simp [volC, nums, Value.oneCell']
theorem volC_setr {A : Option Addr} {n c : Nat} {L M : List Int} {a : Int} (h : L.length = 68) (h' : M.length = 68) : (volC A n c L a).toArray.toList.take 1 ++ nums .i64 M ++ (volC A n c L a).toArray.toList.drop (1 + (nums .i64 M).length) = (volC A n c M a).toArray.toList := by
  have e : (nums .i64 M).length = (nums .i64 L).length := by simp [nums, h, h']
  rw [e]
  show [_] ++ nums .i64 M ++ (volC A n c L a).drop (1 + (nums .i64 L).length) = _
  rw [show 1 + (nums .i64 L).length = (nums .i64 L).length + 1 by omega, volC, List.drop_succ_cons, List.drop_left]
  rfl
theorem volC_seta {A : Option Addr} {n c : Nat} {L : List Int} {a b : Int} (h : L.length = 68) : (volC A n c L a).toArray.toList.take 69 ++ [.int .i64 b] ++ (volC A n c L a).toArray.toList.drop (69 + 1) = (volC A n c L b).toArray.toList := by
  have hn : (nums .i64 L).length = 68 := by simp [nums, h]
  show (volC A n c L a).take 69 ++ [.int .i64 b] ++ (volC A n c L a).drop 70 = volC A n c L b
  unfold volC
  rw [List.take_succ_cons, List.drop_succ_cons, List.take_append_of_le_length (by omega), List.take_of_length_le (by omega), List.drop_append, List.drop_eq_nil_of_le (by omega), hn]
  simp
end Go.Proofs.YtkghgjehjchajaaDoorW.PrintChs
