/- Blocks that hold bytes, written in place: what a call turns is one block. No condition. -/
import Derived.Test.YtkghgjehjchajaaWLe
namespace Go.Proofs.YtkghgjehjchajaaW.PrintRaw
open Go.RowKit Go.Proofs.YtkghgjehjchajaaW.PrintWords Go.Proofs.YtkghgjehjchajaaW.PrintHand Go.Proofs.YtkghgjehjchajaaW.PrintHx Go.Proofs.YtkghgjehjchajaaW.PrintLe
set_option linter.unusedVariables false
/-- All blocks but g as they lay. -/
structure MT (g : Nat) (w w' : World) : Prop where
  os : w'.os = w.os
  tape : w'.tape = w.tape
  output : w'.output = w.output
  size : w.heap.size ≤ w'.heap.size
  other : ∀ j, j < w.heap.size → j ≠ g → w'.heap[j]? = w.heap[j]?
theorem MT.refl (g : Nat) (w : World) : MT g w w := ⟨rfl, rfl, rfl, Nat.le_refl _, fun _ _ _ => rfl⟩
theorem MT.touch {g : Nat} {a b c : World} (h : MT g a b) (t : PrintHand.Touch g b c) : MT g a c := ⟨t.os.trans h.os, t.tape.trans h.tape, t.output.trans h.output, by rw [t.size]; exact h.size, fun j hj hg => (t.other j hg).trans (h.other j hj hg)⟩
theorem MT.then_ {g : Nat} {a b c : World} (h : MT g a b) (t : Below b.heap.size b c) : MT g a c := ⟨t.os.trans h.os, t.tape.trans h.tape, t.output.trans h.output, Nat.le_trans h.size t.size, fun j hj hg => (t.block j (Nat.lt_of_lt_of_le hj h.size)).trans (h.other j hj hg)⟩
theorem MT.trans {g : Nat} {a b c : World} (h : MT g a b) (t : MT g b c) : MT g a c := ⟨t.os.trans h.os, t.tape.trans h.tape, t.output.trans h.output, Nat.le_trans h.size t.size, fun j hj hg => (t.other j (Nat.lt_of_lt_of_le hj h.size) hg).trans (h.other j hj hg)⟩
theorem MT.of_below {g : Nat} {a b : World} (h : Below a.heap.size a b) : MT g a b := (MT.refl g a).then_ h
theorem MT.kept {g : Nat} {w w' : World} (h : MT g w w') : Kept w w' (fun k => k = g) := ⟨h.size, h.other⟩
theorem MT.below {B g : Nat} {a w w' : World} (h : MT g w w') (hB : Below B a w) (hs : B ≤ w.heap.size) (hg : B ≤ g) : Below B a w' :=
  below_kept hB h.kept h.os h.tape h.output hs (fun k hk => by have h_ : k = g := hk; omega)
theorem MT.blk {g k : Nat} {w w' : World} {o : Obj} (h : MT g w w') (hk : k ≠ g) (ho : w.heap[k]? = some o) : w'.heap[k]? = some o := (h.other k (blk_lt ho) hk).trans ho
/-- A row read, in another block. -/
theorem MT.R {α : Type} {d : Kd α} {e B g : Nat} {ok : Nat → Prop} {w w' : World} {v : Value} {xs : List α} (h : MT g w w') (hR : d.R e w B ok v xs) (hok : ∀ k, ok k → k ≠ g) : d.R e w' B ok v xs := Kd.R_kept hR h.kept (fun k hk e_ => hok k hk e_)
section
variable {P : Program} {ops : Array Oper} {rest : List Oper} {o : Oper} {a : Act} {w : World} {Q : Exit → Act → World → Prop}
/-- A number stored into a block of numbers. -/
theorem st_num (hgd : o.guard = none) (hN : o.dst = none) (ty : TypeId) (p x : Operand) (ho : o.op = .store ty p x) (g off : Nat) (k : IntKind) (v : Int) (hp : a.eval p = .pointer (some ⟨g, off, none⟩)) (hx : a.eval x = .int k v)
    (ht : (P.info? ty).map (·.size) = some 1) {t : TypeId} {L : List Int} (hg : w.heap[g]? = some (.cells (nums k L).toArray t (0, 0))) (hn : off < L.length)
    (h : ∀ w', PrintHand.Touch g w w' → w'.heap[g]? = some (.cells (nums k (L.set off v)).toArray t (0, 0)) → wpList P ops Q rest a w') : wpList P ops Q (o :: rest) a w :=
  wpList_st hgd hN ty p x ho g off hp (.int k v) hx [.int k v] (nums k (L.set off v)).toArray rfl ht rfl hg (by simp [nums]; omega)
    (by
      rw [List.set_eq_take_append_cons_drop, if_pos hn]
      simp [nums, List.map_take, List.map_drop]) h
/-- A new row of zero bytes. -/
theorem make_num (hgd : o.guard = none) {N : Tmp} (hd : o.dst = some N) (n e : Nat) (k : IntKind) {s : Nat} (hs : Aside0 (w.heap.size = s))
    (hrun : (execOp a.eval o).run P w = .ok (.value (.slice (some ⟨w.heap.size, 0, none⟩) n n)) (w.alloc (.cells (nums k (List.replicate n 0)).toArray e)))
    (h : ∀ w' s', s < s' → Aside0 (w'.heap.size = s') → Below w.heap.size w w' → w'.heap[s]? = some (.cells (nums k (List.replicate n 0)).toArray e (0, 0)) → wpList P ops Q rest (a.put (some N) (.slice (some ⟨s, 0, none⟩) n n)) w') : wpList P ops Q (o :: rest) a w := by
  have e_ := hs.out
  subst e_
  refine wpList_plain hgd fun K hK => ?_
  unfold Oper.wp
  rw [hrun, Oper.upon_value, hd]
  exact hK _ _ (h _ (w.heap.size + 1) (by omega) ⟨World.size_alloc _ _⟩ (below_alloc (Below.refl _ _) _) (blk_new _ _))
end
theorem reps_nums {k : IntKind} {w : World} {base : Nat} {ok : Nat → Prop} (xs : List Int) : Reps ((Kd.int k).M w base ok) 1 xs (nums k xs) := by
  refine ⟨by simp [nums], fun j p hj => ?_⟩
  show _ = [Value.int k p]
  rw [Nat.mul_one]
  have e : (nums k xs)[j]? = some (.int k p) := by simp [nums, hj]
  have hjn : j < (nums k xs).length := (List.getElem?_eq_some_iff.1 e).1
  rw [List.drop_eq_getElem_cons hjn, List.take_succ_cons, List.take_zero]
  rw [List.getElem?_eq_getElem hjn] at e
  rw [Option.some.inj e]
/-- A block that holds a list of numbers is a row of one's own. -/
theorem own_blk {k : IntKind} {w : World} {g e B : Nat} {L : List Int} (hg : w.heap[g]? = some (.cells (nums k L).toArray e (0, 0))) (hB : B ≤ g) (hl : L.length ≤ 1048576) : (Kd.int k).R e w B (fun _ => True) (.slice (some ⟨g, 0, none⟩) L.length L.length) L :=
  ⟨fun _ _ => trivial, nums k L, ⟨by simp [nums, Kd.int, Kd.scalar], .inr ⟨g, L.length, (nums k L).toArray, rfl, hB, hg, Nat.le_refl _, by simp only [maxLen]; omega, by simp [nums, Kd.int, Kd.scalar], List.take_of_length_le (by simp [nums, Kd.int, Kd.scalar])⟩⟩, reps_nums L⟩
theorem byte_at (v : Int) (j : Nat) (hj : j < 8) : IntKind.u64.wrap v / 2 ^ min (wrap64 (8 * (j : Int))).toNat 64 % 256 = v / 256 ^ j % 256 := by
  rw [show wrap64 (8 * (j : Int)) = ((8 * j : Nat) : Int) by unfold wrap64; omega, Int.toNat_natCast, Nat.min_eq_left (by omega), Int.pow_mul, show (2 : Int) ^ 8 = 256 by decide, show IntKind.u64.wrap v = v % 18446744073709551616 by simp [IntKind.wrap, IntKind.bits, IntKind.signed]]
  have hi : j = 0 ∨ j = 1 ∨ j = 2 ∨ j = 3 ∨ j = 4 ∨ j = 5 ∨ j = 6 ∨ j = 7 := by omega
  rcases hi with rfl | rfl | rfl | rfl | rfl | rfl | rfl | rfl <;> (simp only [Int.reducePow]; omega)
theorem set_next {L M : List Int} {p j : Nat} {v : Int} (hM : M = L.take p ++ leB v j ++ L.drop (p + j)) (hlt : p + j < L.length) : M.set (p + j) (v / 256 ^ j % 256) = L.take p ++ leB v (j + 1) ++ L.drop (p + (j + 1)) := by
  have hl : (L.take p ++ leB v j).length = p + j := by rw [List.length_append, List.length_take, leB_length]; omega
  rw [hM, List.set_append_right _ _ (by omega), hl, Nat.sub_self, List.drop_eq_getElem_cons hlt, List.set_cons_zero, leB_snoc, List.append_assoc, List.append_assoc, List.append_assoc]
  rfl
end Go.Proofs.YtkghgjehjchajaaW.PrintRaw
