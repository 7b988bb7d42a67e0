/- Words for walks with the world a letter: new variables, whole stores and loads, sizes as letters, what a step keeps. No condition. -/
import Derived.Test.YtknlpjoidjgciaaDoorWHand
import Derived.Test.YtknlpjoidjgciaaDoorWKept
import Derived.Great.Walk
namespace Go.Proofs.YtknlpjoidjgciaaDoorW.PrintHx
open Go.RowKit Go.Proofs.YtknlpjoidjgciaaDoorW.PrintWords Go.Proofs.YtknlpjoidjgciaaDoorW.PrintHand
set_option linter.unusedVariables false
/-- A struct (or an array) of whole numbers, told as one list. -/
def wide (n : Nat) : Kd (List Int) where
  sz := n
  E := []
  K := fun _ x cs => x.length = n ∧ cs = nums .i64 x
  M := fun _ _ _ x cs => x.length = n ∧ cs = nums .i64 x
  K_len := fun h => by rw [h.2, ← h.1]; simp [nums]
  K_one := fun h u hu => by
    rw [h.2] at hu
    obtain ⟨x, _, rfl⟩ := List.mem_map.1 hu
    rfl
  K_below := fun _ h => h
  K_of_M := fun h => h
  M_mono := fun _ h => h
  M_bound := fun h => h
  M_move := fun _ h => h
  M_lower := fun _ h => h
/-- Blocks between two sizes. -/
def Btw (lo hi : Nat) (k : Nat) : Prop := lo ≤ k ∧ k < hi
theorem size_letter {s : Nat} {w w' : World} {S : Nat → Prop} (hs : Aside0 (w.heap.size = s)) (h : Kept w w' S) : ∃ s', s ≤ s' ∧ Aside0 (w'.heap.size = s') := ⟨_, by rw [← hs.out]; exact h.1, ⟨rfl⟩⟩
theorem kept_below {w w' : World} (h : Below w.heap.size w w') : Kept w w' (fun _ => False) := Kept.of_below h _
theorem kept_drawn {w w' : World} (h : Drawn0 w w') : Below w.heap.size w w' := by
  obtain ⟨n, rfl⟩ := h
  exact pw_below_drewN (Below.refl _ _) n
theorem kept_touch {g : Nat} {w w' : World} (h : PrintHand.Touch g w w') : Kept w w' (fun k => k = g) := ⟨by rw [h.size]; exact Nat.le_refl _, fun i _ hi => h.other i hi⟩
theorem below_kept {B : Nat} {a w w' : World} {S : Nat → Prop} (hB : Below B a w) (h : Kept w w' S) (ho : w'.os = w.os) (ht : w'.tape = w.tape) (hp : w'.output = w.output) (hs : B ≤ w.heap.size) (hS : ∀ k, S k → B ≤ k) : Below B a w' :=
  hB.trans ⟨ho, ht, hp, h.1, fun k hk => h.2 k (by omega) (fun hx => by have := hS k hx; omega)⟩
theorem own_btw {α : Type} {d : Kd α} {e : Nat} {w : World} {base B s s' : Nat} {ok : Nat → Prop} {v : Value} {xs : List α} (h : d.R e w base ok v xs) (hb : base = s) (hs : Aside0 (w.heap.size = s')) (hB : B ≤ base) : Aside0 (d.R e w B (Btw s s') v xs) := by
  subst hb
  exact ⟨Kd.R_lower (Kd.R_mono (Kd.R_bound h) (fun k hk => ⟨hk.2.1, by rw [← hs.out]; exact hk.2.2.1⟩)) hB⟩
/-- A row written in place: it lies where it lay. -/
theorem own_same {α : Type} {d : Kd α} {e : Nat} {w w' : World} {B : Nat} {ok ok' : Nat → Prop} {v : Value} {xs ys : List α} (h : d.R e w' B ok' v ys) (h0 : d.R e w B ok v xs) (hE : d.E = []) : Aside0 (d.R e w' B ok v ys) := by
  obtain ⟨_, inner, ho, hr⟩ := h
  exact ⟨h0.1, inner, ho, hr.imp_ (fun _ _ hp => d.M_mono (fun k hk => by obtain ⟨_, _, _, q, hq, _⟩ := hk; rw [hE] at hq; cases hq) (d.M_bound hp))⟩
section
variable {P : Program} {ops : Array Oper} {rest : List Oper} {o : Oper} {a : Act} {w : World} {Q : Exit → Act → World → Prop}
/-- A new variable. -/
theorem hx_alloc (hgd : o.guard = none) (N : Tmp) (hd : o.dst = some N) (t : TypeId) (ho : o.op = .alloc t) {s : Nat} (hs : Aside0 (w.heap.size = s)) (z : Value) (zs : Array Value) (hz : ∀ w, (zeroValue t).run P w = .ok z w) (hzs : z.cells = zs)
    (h : ∀ w' s', s < s' → Aside0 (w'.heap.size = s') → Below w.heap.size w w' → w'.heap[s]? = some (.cells zs t (0, 0)) → wpList P ops Q rest (a.put (some N) (.pointer (some ⟨s, 0, none⟩))) w') : wpList P ops Q (o :: rest) a w := by
  subst hzs
  have e := hs.out
  subst e
  refine Go.Great.wpList_runTo hgd (some N) hd (.pointer (some ⟨w.heap.size, 0, none⟩)) (w.alloc (.cells z.cells t)) ?_ (h _ (w.heap.size + 1) (by omega) ⟨World.size_alloc _ _⟩ (below_alloc (Below.refl _ _) _) (blk_new _ _))
  unfold execOp
  simp only [ho, Instr.alloc, Sem.run_bind, hz, Result.andThen_ok, newVar, newRow, run_newObj_alloc, Sem.run_pure]
/-- A value laid in a new variable. -/
theorem hx_box (hgd : o.guard = none) (N : Tmp) (hd : o.dst = some N) (t : TypeId) (x : Operand) (ho : o.op = .box t x) {s : Nat} (hs : Aside0 (w.heap.size = s)) (u : Value) (zs : Array Value) (hx : a.eval x = u) (hzs : u.cells = zs)
    (h : ∀ w' s', s < s' → Aside0 (w'.heap.size = s') → Below w.heap.size w w' → w'.heap[s]? = some (.cells zs t (0, 0)) → wpList P ops Q rest (a.put (some N) (.pointer (some ⟨s, 0, none⟩))) w') : wpList P ops Q (o :: rest) a w := by
  subst hzs
  subst hx
  have e := hs.out
  subst e
  exact Go.Great.wpList_boxTo hgd t x ho (some N) hd _ rfl _ rfl (h _ (w.heap.size + 1) (by omega) ⟨World.size_alloc _ _⟩ (below_alloc (Below.refl _ _) _) (blk_new _ _))
/-- A whole variable read. -/
theorem hx_load (hgd : o.guard = none) (ty : TypeId) (x : Operand) (ho : o.op = .load ty x) (g n : Nat) (hx : a.eval x = .pointer (some ⟨g, 0, none⟩)) {t : TypeId} {cs : Array Value} {d : TypeDesc}
    (hu : P.underlying ty = some d) (hd : (match d with | .struct _ | .array _ _ => true | _ => false) = true) (hi : (P.info? ty).map (·.size) = some n)
    (hg : w.heap[g]? = some (.cells cs t (0, 0))) (hn : cs.size = n)
    (h : wpList P ops Q rest (a.put o.dst (.agg cs)) w) : wpList P ops Q (o :: rest) a w :=
  wpList_ld hgd ty x ho g 0 n hx cs hu hd hi hg (by omega) (by rw [List.drop_zero, List.take_of_length_le (by simp [hn])]) h
/-- A whole variable written. -/
theorem hx_store (hgd : o.guard = none) (hN : o.dst = none) (ty : TypeId) (p x : Operand) (ho : o.op = .store ty p x) (g n : Nat) (hp : a.eval p = .pointer (some ⟨g, 0, none⟩)) {t : TypeId} {cs : Array Value} (new : Array Value) (hx : a.eval x = .agg new)
    (ht : (P.info? ty).map (·.size) = some n) (hn : new.size = n) (h1 : new.toList.all (·.oneCell') = true) (hg : w.heap[g]? = some (.cells cs t (0, 0))) (hfit : cs.size = n)
    (h : ∀ w', PrintHand.Touch g w w' → w'.heap[g]? = some (.cells new t (0, 0)) → wpList P ops Q rest a w') : wpList P ops Q (o :: rest) a w :=
  wpList_st hgd hN ty p x ho g 0 hp (.agg new) hx new.toList new rfl (by rw [ht, Array.length_toList, hn]) h1 hg (by rw [Array.length_toList]; omega)
    (by rw [List.take_zero, List.nil_append, List.drop_eq_nil_of_le (by rw [Array.length_toList, Array.length_toList]; omega), List.append_nil]) h
theorem nums_one (k : IntKind) (L : List Int) : (nums k L).toArray.toList.all (·.oneCell') = true := by
  simp [nums, Value.oneCell']
theorem part_nums (k : IntKind) (L : List Int) (o n : Nat) (h : L.length = o + n) : ((nums k L).toArray.toList.drop o).take n = (nums k (L.drop o)).toArray.toList := by
  have e : ((nums k L).toArray.toList.drop o) = nums k (L.drop o) := by simp [nums]
  rw [e, List.take_of_length_le (by simp [nums, h])]
theorem nums_size (k : IntKind) (L : List Int) (n : Nat) (h : L.length = n) : (nums k L).toArray.size = n := by
  simp [nums, h]
theorem lt_len {L : List Int} {n off : Nat} (h : L.length = n) (ho : off < n) : off < L.length := by omega
theorem le_len {L : List Int} {n off : Nat} (h : L.length = n) (ho : off ≤ n) : off ≤ L.length := by omega
/-- A part of a list (a name that the walk leaves alone). -/
def seg (L : List Int) (o m : Nat) : List Int := (L.drop o).take m
theorem part_len {L : List Int} {n o m : Nat} (h : L.length = n) (ho : o + m ≤ n) : (seg L o m).length = m := by
  rw [seg, List.length_take, List.length_drop]
  omega
theorem take_nums (k : IntKind) (L : List Int) (o n : Nat) : ((nums k L).toArray.toList.drop o).take n = (nums k ((L.drop o).take n)).toArray.toList := by simp [nums]
/-- A field of a variable of whole numbers, read. -/
theorem hx_loadf (hgd : o.guard = none) (ty : TypeId) (x : Operand) (ho : o.op = .load ty x) (g off : Nat) (hx : a.eval x = .pointer (some ⟨g, off, none⟩)) {t : TypeId} {L : List Int} {d : TypeDesc}
    (hu : P.underlying ty = some d) (hd : (match d with | .struct _ | .array _ _ => true | _ => false) = false) (hg : w.heap[g]? = some (.cells (nums .i64 L).toArray t (0, 0))) (hn : off < L.length)
    (h : wpList P ops Q rest (a.put o.dst (.int .i64 (L.getD off 0))) w) : wpList P ops Q (o :: rest) a w :=
  wpList_ld1 hgd ty x ho g off hx (.int .i64 (L.getD off 0)) hu hd hg (by simp [nums, List.getElem?_eq_getElem hn]) h
/-- A part of a variable of whole numbers, read. -/
theorem hx_loadp (hgd : o.guard = none) (ty : TypeId) (x : Operand) (ho : o.op = .load ty x) (g off n : Nat) (hx : a.eval x = .pointer (some ⟨g, off, none⟩)) {t : TypeId} {L : List Int} {d : TypeDesc}
    (hu : P.underlying ty = some d) (hd : (match d with | .struct _ | .array _ _ => true | _ => false) = true) (hi : (P.info? ty).map (·.size) = some n)
    (hg : w.heap[g]? = some (.cells (nums .i64 L).toArray t (0, 0))) (hn : off + n ≤ L.length)
    (h : wpList P ops Q rest (a.put o.dst (.agg (nums .i64 (seg L off n)).toArray)) w) : wpList P ops Q (o :: rest) a w :=
  wpList_ld hgd ty x ho g off n hx _ hu hd hi hg (by simpa [nums] using hn) (take_nums _ _ _ _) h
/-- A field of a variable of whole numbers, written. -/
theorem hx_storef (hgd : o.guard = none) (hN : o.dst = none) (ty : TypeId) (p x : Operand) (ho : o.op = .store ty p x) (g off : Nat) (hp : a.eval p = .pointer (some ⟨g, off, none⟩)) {t : TypeId} {L : List Int} (v : Int) (hx : a.eval x = .int .i64 v)
    (ht : (P.info? ty).map (·.size) = some 1) (hg : w.heap[g]? = some (.cells (nums .i64 L).toArray t (0, 0))) (hn : off < L.length)
    (h : ∀ w' L', PrintHand.Touch g w w' → Aside0 (L' = L.set off v) → Aside0 (L'.length = L.length) → w'.heap[g]? = some (.cells (nums .i64 L').toArray t (0, 0)) → wpList P ops Q rest a w') : wpList P ops Q (o :: rest) a w :=
  wpList_st hgd hN ty p x ho g off hp (.int .i64 v) hx [.int .i64 v] (nums .i64 (L.set off v)).toArray rfl ht rfl hg (by simp [nums]; omega)
    (by
      rw [List.set_eq_take_append_cons_drop, if_pos hn]
      simp [nums, List.map_take, List.map_drop])
    (fun w' t_ g_ => h w' _ t_ ⟨rfl⟩ ⟨List.length_set ..⟩ g_)
/-- A part of a variable of whole numbers, written. -/
theorem hx_storep (hgd : o.guard = none) (hN : o.dst = none) (ty : TypeId) (p x : Operand) (ho : o.op = .store ty p x) (g off n : Nat) (hp : a.eval p = .pointer (some ⟨g, off, none⟩)) {t : TypeId} {L : List Int} (M : List Int) (hx : a.eval x = .agg (nums .i64 M).toArray)
    (ht : (P.info? ty).map (·.size) = some n) (hM : M.length = n) (hg : w.heap[g]? = some (.cells (nums .i64 L).toArray t (0, 0))) (hn : off + n ≤ L.length)
    (h : ∀ w' L', PrintHand.Touch g w w' → Aside0 (L' = L.take off ++ M ++ L.drop (off + n)) → Aside0 (L'.length = L.length) → w'.heap[g]? = some (.cells (nums .i64 L').toArray t (0, 0)) → wpList P ops Q rest a w') : wpList P ops Q (o :: rest) a w :=
  wpList_st hgd hN ty p x ho g off hp (.agg (nums .i64 M).toArray) hx (nums .i64 M) (nums .i64 (L.take off ++ M ++ L.drop (off + n))).toArray (by simp [Value.cells]) (by rw [ht]; simp [nums, hM]) (by simpa using nums_one .i64 M) hg (by simp [nums, hM]; omega)
    (by simp [nums, hM, List.map_take, List.map_drop])
    (fun w' t_ g_ => h w' _ t_ ⟨rfl⟩ ⟨by simp [hM]; omega⟩ g_)
end
end Go.Proofs.YtknlpjoidjgciaaDoorW.PrintHx
