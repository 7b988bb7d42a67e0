/- Small laws for walks by hand over blocks that hold a list of numbers (arrays). No condition. -/
import Derived.Test.YtknlpjoidjgciaaDoorWMore
import Derived.Test.YtknlpjoidjgciaaDoorWLast
import Derived.Laws.Tables
import Derived.Laws.Rows
import Derived.Laws.RangeString
import Derived.Laws.Cover3
namespace Go.Proofs.YtknlpjoidjgciaaDoorW.PrintHand
open Go.RowKit Go.Proofs.YtknlpjoidjgciaaDoorW.PrintWords
set_option linter.unusedVariables false
/-- A block that holds a list of numbers: a cell. -/
theorem row_cell {W : World} {g : Nat} {k : IntKind} {l : List Int} {t : TypeId} {fr : Nat × Nat} (h : W.heap[g]? = some (.cells (nums k l).toArray t fr)) (i : Nat) (hi : i < l.length) : W.cell? ⟨g, i, none⟩ = some (.int k (l.getD i 0)) := by
  simp [World.cell?, h, nums, List.getElem?_eq_getElem hi]
theorem cons_of_len {α : Type} {n : Nat} {L : List α} (h : L.length = n + 1) : ∃ a L', L = a :: L' ∧ L'.length = n := by
  rcases L with _ | ⟨a, L⟩
  · simp at h
  · exact ⟨a, L, rfl, by simpa using h⟩
theorem row_none {w : World} {k : IntKind} {l : List Int} (h : Kd.C (Kd.int k) w none l.length l) : l = [] := by
  rcases l with _ | ⟨x, l⟩
  · rfl
  · obtain ⟨a, ha, _⟩ := Kd.at_int h 0 (by decide) (by simp)
    cases ha
theorem row_frozen {W : World} {g : Nat} {cs : Array Value} {t : TypeId} (h : W.heap[g]? = some (.cells cs t (0, 0))) (i : Nat) : W.frozen? ⟨g, i, none⟩ = false := by
  simp [World.frozen?, h]
theorem row_set {W : World} {g : Nat} {k : IntKind} {l : List Int} {t : TypeId} {fr : Nat × Nat} (h : W.heap[g]? = some (.cells (nums k l).toArray t fr)) (i : Nat) (v : Int) : (W.setCell ⟨g, i, none⟩ (.int k v)).heap[g]? = some (.cells (nums k (l.set i v)).toArray t fr) := by
  simp [World.setCell, Array.getElem?_modify, h, nums, List.map_set]
theorem row_other {W : World} {g g' : Nat} {o : Obj} (h : W.heap[g]? = some o) (hne : g ≠ g') (i : Nat) (v : Value) : (W.setCell ⟨g', i, none⟩ v).heap[g]? = some o := by
  rw [Below.heap_setCell _ _ _ _ hne]; exact h
/-- A list's cells with other cells ahead of it and behind it (an array in a struct). -/
theorem mid_cell {W : World} {g : Nat} {k : IntKind} {l : List Int} {pre post : List Value} {t : TypeId} {fr : Nat × Nat} (h : W.heap[g]? = some (.cells (pre ++ nums k l ++ post).toArray t fr)) (n i : Nat) (hn : pre.length = n) (hi : i < l.length) : W.cell? ⟨g, n + i, none⟩ = some (.int k (l.getD i 0)) := by
  subst hn
  simp [World.cell?, h, nums, List.getElem?_append_right, List.getElem?_append_left, hi]
theorem mid_set {W : World} {g : Nat} {k : IntKind} {l : List Int} {pre post : List Value} {t : TypeId} {fr : Nat × Nat} (h : W.heap[g]? = some (.cells (pre ++ nums k l ++ post).toArray t fr)) (n i : Nat) (hn : pre.length = n) (hi : i < l.length) (v : Int) : (W.setCell ⟨g, n + i, none⟩ (.int k v)).heap[g]? = some (.cells (pre ++ nums k (l.set i v) ++ post).toArray t fr) := by
  subst hn
  have e : (pre ++ nums k l ++ post).set (pre.length + i) (.int k v) = pre ++ nums k (l.set i v) ++ post := by
    rw [List.append_assoc, List.set_append_right _ _ (by omega), Nat.add_sub_cancel_left, List.set_append_left _ _ (by simpa [nums] using hi), List.append_assoc]
    simp [nums, List.map_set]
  simp only [World.setCell, Array.getElem?_modify, h, if_true, Option.map_some, Option.isSome_none, Bool.false_eq_true, if_false]
  rw [← e]
  simp
theorem setRow_same {w : World} {g : Nat} {t : TypeId} {old cs : Array Value} (hg : w.heap[g]? = some (.cells old t (0, 0))) : (w.setRow g cs).heap[g]? = some (.cells cs t (0, 0)) := by
  simp [World.setRow, Array.getElem?_modify, hg]
theorem setRow_other {w : World} {g k : Nat} {cs : Array Value} (h : k ≠ g) : (w.setRow g cs).heap[k]? = w.heap[k]? := by
  simp only [World.setRow, Array.getElem?_modify]
  rw [if_neg (by omega)]
theorem setRow_below {B : Nat} {a w : World} (h : Below B a w) {g : Nat} (hg : B ≤ g) (cs : Array Value) : Below B a (w.setRow g cs) :=
  h.trans ⟨rfl, rfl, rfl, by simp [World.setRow], fun k hk => setRow_other (by omega)⟩
/-! ### Wide blocks: a part read, a part written; the world behind a store is a letter -/
/-- Only block g has turned. -/
structure Touch (g : Nat) (w w' : World) : Prop where
  os : w'.os = w.os
  tape : w'.tape = w.tape
  output : w'.output = w.output
  size : w'.heap.size = w.heap.size
  other : ∀ k, k ≠ g → w'.heap[k]? = w.heap[k]?
theorem Touch.keep {g k : Nat} {w w' : World} {o : Obj} (h : Touch g w w') (hk : k ≠ g) (ho : w.heap[k]? = some o) : w'.heap[k]? = some o := (h.other k hk).trans ho
theorem Touch.below {B g : Nat} {a w w' : World} (h : Touch g w w') (hB : Below B a w) (hg : B ≤ g) : Below B a w' :=
  hB.trans ⟨h.os, h.tape, h.output, by rw [h.size]; exact Nat.le_refl _, fun k hk => h.other k (by omega)⟩
theorem touch_setCells (g o : Nat) (vs : List Value) (w : World) : Touch g w (w.setCells g o vs) := by
  obtain ⟨h1, h2, h3, h4⟩ := setCells_same g vs o w
  exact ⟨h1, h2, h3, h4, fun k hk => setCells_far vs o k hk⟩
section
variable {P : Program} {ops : Array Oper} {rest : List Oper} {o : Oper} {a : Act} {w : World} {Q : Exit → Act → World → Prop}
theorem run_load_part (w : World) (g off n : Nat) (t ty : TypeId) (cs : Array Value) (fr : Nat × Nat) (d : TypeDesc) (hg : w.heap[g]? = some (.cells cs t fr))
    (hu : P.underlying ty = some d) (hd : (match d with | .struct _ | .array _ _ => true | _ => false) = true) (hi : (P.info? ty).map (·.size) = some n) (hn : off + n ≤ cs.size) :
    (loadVar ty ⟨g, off, none⟩).run P w = .ok (.agg ((cs.toList.drop off).take n).toArray) w := by
  have hlen : ((cs.toList.drop off).take n).length = n := by rw [List.length_take, List.length_drop, Array.length_toList]; omega
  have hl : (loadCells ⟨g, off, none⟩ ((cs.toList.drop off).take n).length).run P w = .ok ((cs.toList.drop off).take n).toArray w :=
    run_loadCells_list (P := P) w ⟨g, off, none⟩ ((cs.toList.drop off).take n) (fun j v hv => by
      have hadd : (⟨g, off, none⟩ : Addr).add j = ⟨g, off + j, none⟩ := by unfold Addr.add; split <;> simp_all
      rw [hadd, cell_of_row w g (off + j) cs t fr hg]
      rw [List.getElem?_take] at hv
      split at hv
      · rw [List.getElem?_drop] at hv
        rw [← hv]
        simp
      · cases hv)
  rw [hlen] at hl
  cases hq : P.info? ty with
  | none => simp [hq] at hi
  | some i =>
    have hs : i.size = n := by simpa [hq] using hi
    have hagg : (isAgg ty).run P w = .ok true w := by
      unfold isAgg
      rw [Sem.run_bind, run_underlying hu w]
      cases d <;> simp_all
    simp [loadVar, Sem.run_bind, hagg, sizeOf, typeInfo, hq, hs, hl]
/-- A part of a block, read as a value of several cells. -/
theorem wpList_ld (hgd : o.guard = none) (ty : TypeId) (x : Operand) (ho : o.op = .load ty x) (g off n : Nat) (hx : a.eval x = .pointer (some ⟨g, off, none⟩)) {t : TypeId} {cs : Array Value} {d : TypeDesc} (v : Array Value)
    (hu : P.underlying ty = some d) (hd : (match d with | .struct _ | .array _ _ => true | _ => false) = true) (hi : (P.info? ty).map (·.size) = some n)
    (hg : w.heap[g]? = some (.cells cs t (0, 0))) (hn : off + n ≤ cs.size) (hv : (cs.toList.drop off).take n = v.toList)
    (h : wpList P ops Q rest (a.put o.dst (.agg v)) w) : wpList P ops Q (o :: rest) a w := by
  refine wpList_plain hgd fun K hK => ?_
  unfold Oper.wp execOp
  simp only [ho, hx, Instr.loadAt, Instr.sureAddr, Sem.run_bind, Sem.run_pure, Result.andThen_ok, run_load_part w g off n t ty cs (0, 0) d hg hu hd hi hn]
  rw [hv, Array.toArray_toList]
  exact hK _ _ h
/-- One cell of a block. -/
theorem wpList_ld1 (hgd : o.guard = none) (ty : TypeId) (x : Operand) (ho : o.op = .load ty x) (g off : Nat) (hx : a.eval x = .pointer (some ⟨g, off, none⟩)) {t : TypeId} {cs : Array Value} {d : TypeDesc} (v : Value)
    (hu : P.underlying ty = some d) (hd : (match d with | .struct _ | .array _ _ => true | _ => false) = false) (hg : w.heap[g]? = some (.cells cs t (0, 0))) (hv : cs[off]? = some v)
    (h : wpList P ops Q rest (a.put o.dst v) w) : wpList P ops Q (o :: rest) a w := by
  refine wpList_plain hgd fun K hK => ?_
  have hagg : (isAgg ty).run P w = .ok false w := by
    unfold isAgg
    rw [Sem.run_bind, run_underlying hu w]
    cases d <;> simp_all
  have hc : w.cell? ⟨g, off, none⟩ = some v := (blk_cell hg off).trans hv
  have hl : (loadVar ty ⟨g, off, none⟩).run P w = .ok v w := by
    unfold loadVar
    rw [Sem.run_bind, hagg]
    simp [hc]
  unfold Oper.wp execOp
  simp only [ho, hx, Instr.loadAt, Instr.sureAddr, Sem.run_bind, Sem.run_pure, Result.andThen_ok, hl]
  exact hK _ _ h
/-- A value stored into a part of a block (of one cell or of several). -/
theorem wpList_st (hgd : o.guard = none) (hN : o.dst = none) (ty : TypeId) (p x : Operand) (ho : o.op = .store ty p x) (g off : Nat) (hp : a.eval p = .pointer (some ⟨g, off, none⟩)) {t : TypeId} {cs : Array Value} (u : Value) (hx : a.eval x = u) (seg : List Value) (new : Array Value)
    (hu : u.cells.toList = seg) (ht : (P.info? ty).map (·.size) = some seg.length) (h1 : seg.all (·.oneCell') = true) (hg : w.heap[g]? = some (.cells cs t (0, 0))) (hfit : off + seg.length ≤ cs.size)
    (hnew : cs.toList.take off ++ seg ++ cs.toList.drop (off + seg.length) = new.toList)
    (h : ∀ w', Touch g w w' → w'.heap[g]? = some (.cells new t (0, 0)) → wpList P ops Q rest a w') : wpList P ops Q (o :: rest) a w := by
  refine wpList_plain hgd fun K hK => ?_
  have hrun := run_store_run (P := P) (w := w) (g := g) (o := off) ty u seg hg hu ht hfit (fun q hq => List.all_eq_true.1 h1 q hq)
  unfold Oper.wp execOp
  simp only [ho, hp, hx, Sem.run_bind, Sem.run_pure, Result.andThen_ok, hrun]
  obtain ⟨cur', h3, h4, h5⟩ := setCells_row seg off w cs hg hfit
  have hc : cur' = new := by
    apply Array.toList_inj.1
    rw [h5, hnew]
  rw [hc] at h3
  have hput : a.put o.dst undef = a := by simp [Act.put, hN]
  show K (a.put o.dst undef) (w.setCells g off seg)
  rw [hput]
  exact hK _ _ (h _ (touch_setCells g off seg w) h3)
/-- A slice asked for nil. -/
theorem run_eql_slice_nil (w : World) (t e : TypeId) (a : Option Addr) (l c : Nat) (h : P.underlying t = some (.slice e)) : (binOp .eql t (.slice a l c) (.slice none 0 0)).run P w = .ok (.bool a.isNone) w := by
  have e := run_equal_slice_nil (P := P) w t e a l c h
  simp [binOp, e]
/-- A call of a function that lies in a place. -/
theorem goesV_ (N : Option Tmp) (hd : o.dst = N) (hgd : o.guard = none) {f : FuncId} {fn : Func} {as : Array Operand} {ts : Array TypeId} {x : Operand} (hf : P.funcs[f]? = some fn) (hname : (fn.name == "runtime.NumGoroutine") = false) (hb : fn.body.isSome = true) (args : Array Value)
    (hop : o.op = .call { callee := .value x, args := as, argTypes := ts }) (hx : a.eval x = .func (.func f) #[] #[]) (hargs : as.map a.eval = args)
    (h : Calls P f args w fun e w' => ∃ v, e = .returned v ∧ wpList P ops Q rest (a.put N v) w') : wpList P ops Q (o :: rest) a w := by
  refine wpList_plain hgd fun K hK => ?_
  have he := PrintLast.enters_ hf hname hb args w
  have hrun : (execOp a.eval o).run P w = .ok (.enter f args) w := by
    unfold execOp
    simp [hop, resolve, hx, Deferred.ofValue, invoke, hargs, he]
  unfold Oper.wp
  rw [hrun, Oper.upon_enter]
  refine h.mono fun e w'' hh => ?_
  obtain ⟨v, rfl, hk⟩ := hh
  subst hd
  exact hK _ _ hk
/-- 'range' over a string: a new iterator. -/
theorem wpList_range_str (hgd : o.guard = none) (x : Operand) (t : TypeId) (ho : o.op = .range t x) (s : ByteArray) (hx : a.eval x = .string s) (hu : P.underlying t = some .string)
    (h : wpList P ops Q rest (a.put o.dst (.pointer (some ⟨w.heap.size, 0, none⟩))) (w.alloc (.stringIter s 0))) : wpList P ops Q (o :: rest) a w := by
  refine wpList_plain hgd fun K hK => ?_
  unfold Oper.wp execOp
  simp only [ho, hx, Sem.run_bind, run_range_string w t s hu, Sem.run_pure, Result.andThen_ok]
  exact hK _ _ h
/-- The next rune of a string, or none. -/
theorem wpList_next_str (hgd : o.guard = none) (x : Operand) (ho : o.op = .next x true) (g : Nat) (s : ByteArray) (pos : Nat) (hx : a.eval x = .pointer (some ⟨g, 0, none⟩)) (hg : w.heap[g]? = some (.stringIter s pos))
    (hlt : pos < s.size) (h : ∀ w', Touch g w w' → w'.heap[g]? = some (.stringIter s (pos + (Utf8.decode s pos).2)) → wpList P ops Q rest (a.put o.dst (.tuple #[.bool true, .int .i64 pos, .int .i32 (Utf8.decode s pos).1])) w') : wpList P ops Q (o :: rest) a w := by
  have hgl : g < w.heap.size := (Array.getElem?_eq_some_iff.1 hg).1
  refine wpList_plain hgd fun K hK => ?_
  unfold Oper.wp execOp
  have hrun : (Instr.next (.pointer (some ⟨g, 0, none⟩)) true o.type).run P w = .ok (.tuple #[.bool true, .int .i64 pos, .int .i32 (Utf8.decode s pos).1]) { w with heap := w.heap.setIfInBounds g (.stringIter s (pos + (Utf8.decode s pos).2)) } := by
    simp [Instr.next, getObj, setObj, Sem.run, hg, hlt, goInt]
  simp only [ho, hx, Sem.run_bind, hrun, Sem.run_pure, Result.andThen_ok]
  refine hK _ _ (h _ ⟨rfl, rfl, rfl, by simp, fun k hk => ?_⟩ ?_)
  · simp [show g ≠ k from fun e => hk e.symm]
  · simp [hgl]
theorem wpList_next_str_end (hgd : o.guard = none) (x : Operand) (ho : o.op = .next x true) (g : Nat) (s : ByteArray) (pos : Nat) (hx : a.eval x = .pointer (some ⟨g, 0, none⟩)) (hg : w.heap[g]? = some (.stringIter s pos))
    (hlt : ¬ pos < s.size) (h : wpList P ops Q rest (a.put o.dst (.tuple #[.bool false])) w) : wpList P ops Q (o :: rest) a w := by
  refine wpList_plain hgd fun K hK => ?_
  unfold Oper.wp execOp
  have hrun : (Instr.next (.pointer (some ⟨g, 0, none⟩)) true o.type).run P w = .ok (.tuple #[.bool false]) w := by
    simp [Instr.next, getObj, Sem.run, hg, hlt]
  simp only [ho, hx, Sem.run_bind, hrun, Sem.run_pure, Result.andThen_ok]
  exact hK _ _ h
end
end Go.Proofs.YtknlpjoidjgciaaDoorW.PrintHand
