/- A table read back: what its bytes say; steps of walks (a literal of one wide struct, a cut out of bytes, one cell read). No condition. -/
import Derived.Test.YtkghgjehjchajaaWTab2
import Derived.Test.YtkghgjehjchajaaWGrow
namespace Go.Proofs.YtkghgjehjchajaaW.PrintTab3
open Go.RowKit Go.Proofs.YtkghgjehjchajaaW.PrintWords Go.Proofs.YtkghgjehjchajaaW.PrintHand Go.Proofs.YtkghgjehjchajaaW.PrintHx Go.Proofs.YtkghgjehjchajaaW.PrintLe Go.Proofs.YtkghgjehjchajaaW.PrintIno Go.Proofs.YtkghgjehjchajaaW.PrintDec Go.Proofs.YtkghgjehjchajaaW.PrintTabl Go.Proofs.YtkghgjehjchajaaW.PrintTab2 Go.Proofs.YtkghgjehjchajaaW.PrintRaw
set_option linter.unusedVariables false
set_option linter.unusedSimpArgs false
section
variable {P : Program} {ops : Array Oper} {rest : List Oper} {o : Oper} {a : Act} {w : World} {Q : Exit → Act → World → Prop}
/-- A literal slice of one wide struct. -/
theorem hx_lit1 (hgd : o.guard = none) (t e n : Nat) (x : Operand) (ho : o.op = .buildSlice t 1 #[(0, x)]) (L : List Int) (hx : a.eval x = .agg (nums .i64 L).toArray) (hL : L.length = n) {s : Nat} (hs : Aside0 (w.heap.size = s))
    (hr : ∀ w : World, (Instr.buildSlice t 1 #[(0, .agg (nums .i64 L).toArray)]).run P w = .ok (.slice (some ⟨w.heap.size, 0, none⟩) 1 1) (w.alloc (.cells (nums .i64 L).toArray e)))
    (h : ∀ w', Below w.heap.size w w' → Aside0 (Kd.C (PrintHx.wide n) w' (some ⟨s, 0, none⟩) 1 [L]) → wpList P ops Q rest (a.put o.dst (.slice (some ⟨s, 0, none⟩) 1 1)) w') : wpList P ops Q (o :: rest) a w := by
  have e_ := hs.out
  subst e_
  refine wpList_plain hgd fun K hK => ?_
  unfold Oper.wp execOp
  simp only [ho, List.map_toArray, List.map_cons, List.map_nil, hx, Sem.run_bind, hr, Result.andThen_ok, Sem.run_pure, Oper.upon_value]
  refine hK _ _ (h _ (below_alloc (Below.refl _ _) _) ⟨⟨rfl, by decide, fun _ => ⟨_, rfl, fun j p hj => ?_⟩⟩⟩)
  obtain rfl : j = 0 := by
    have := (List.getElem?_eq_some_iff.1 hj).1
    simpa using this
  obtain rfl : L = p := by simpa using hj
  refine ⟨nums .i64 L, by simp [nums, PrintHx.wide, hL], ⟨hL, rfl⟩, fun i u hu => ?_⟩
  have hi : i < L.length := by have := (List.getElem?_eq_some_iff.1 hu).1; simpa [nums] using this
  have hc := row_cell (blk_new w (.cells (nums .i64 L).toArray e)) i hi
  have ha : (⟨w.heap.size, 0, none⟩ : Addr).add (0 * (PrintHx.wide n).sz + i) = ⟨w.heap.size, i, none⟩ := by unfold Addr.add; split <;> simp_all
  rw [ha, hc, ← hu]
  simp [nums, List.getElem?_eq_getElem hi]
/-- A piece cut out of a row of bytes. -/
theorem hx_mid (hgd : o.guard = none) (t e : TypeId) (x lo hi : Operand) (ho : o.op = .slice t x (some lo) (some hi) none) (A : Option Addr) (c : Nat) (l : List Int) (p q : Nat) (hx : a.eval x = .slice A l.length c) (hlo : a.eval lo = .int .i64 ((p : Nat) : Int)) (hhi : a.eval hi = .int .i64 ((q : Nat) : Int))
    (ht : P.underlying t = some (.slice e)) (hsz : (P.info? e).map (·.size) = some 1) (hpq : p ≤ q) (hq : q ≤ l.length) (hc : l.length ≤ c) (HR : Kd.C (Kd.int .u8) w A l.length l)
    (h : ∀ A' c' l', Aside0 (l' = seg l p (q - p)) → Aside0 (Kd.C (Kd.int .u8) w A' l'.length l') → Aside0 (l'.length ≤ c') → wpList P ops Q rest (a.put o.dst (.slice A' l'.length c')) w) : wpList P ops Q (o :: rest) a w := by
  refine wpList_plain hgd fun K hK => ?_
  obtain ⟨i, hi, hs⟩ := Option.map_eq_some_iff.1 hsz
  obtain ⟨A', hcut, hA, hC⟩ := print_mid_of (P := P) (Value.int .u8) 0 t e .i64 .i64 ht hi hs A c l (p : Int) (q : Int) (by omega) (by omega) (by omega) hc
  have hel : P.elem t = e := by simp [Program.elem, ht]
  have hu : P.underlying t = some (.slice (P.elem t)) := by rw [hel]; exact ht
  have hsl := run_sliceAt_slice (P := P) (w := w) t (.slice A l.length c) (some (.int .i64 (p : Int))) (some (.int .i64 (q : Int))) none hu
  have hR := Kd.C_of_reads (h1 := fun _ => rfl) (hA w (Kd.reads_of_C HR))
  have e_ : (l.take (q : Int).toNat).drop (p : Int).toNat = seg l p (q - p) := by
    rw [Int.toNat_natCast, Int.toNat_natCast]
    exact take_drop l p q
  unfold Oper.wp execOp
  simp only [ho, hx, hlo, hhi, Option.map_some, Option.map_none, Sem.run_bind, hsl, hcut, Result.andThen_ok, Sem.run_pure, Oper.upon_value]
  exact hK _ _ (h A' _ _ ⟨e_⟩ ⟨hR⟩ ⟨hC⟩)
/-- One cell read. -/
theorem hx_ld1 (hgd : o.guard = none) (ty : TypeId) (x : Operand) (ho : o.op = .load ty x) (ad : Addr) (hx : a.eval x = .pointer (some ad)) (v : Value) {d : TypeDesc} (hu : P.underlying ty = some d) (hd : (match d with | .struct _ | .array _ _ => true | _ => false) = false) (hc : w.cell? ad = some v)
    (h : wpList P ops Q rest (a.put o.dst v) w) : wpList P ops Q (o :: rest) a w := by
  refine wpList_plain hgd fun K hK => ?_
  have hagg : (isAgg ty).run P w = .ok false w := by
    unfold isAgg
    rw [Sem.run_bind, run_underlying hu w]
    cases d <;> simp_all
  have hl : (loadVar ty ad).run P w = .ok v w := by
    unfold loadVar
    rw [Sem.run_bind, hagg]
    simp [hc]
  unfold Oper.wp execOp
  simp only [ho, hx, Instr.loadAt, Instr.sureAddr, Sem.run_bind, Sem.run_pure, Result.andThen_ok, hl]
  exact hK _ _ h
end
/-! ### The table's bytes -/
def chunk (l : List Int) (j : Nat) : List Int := seg l (128 * j) 128
def decAt (l : List Int) (j : Nat) : List Int × Int := decI (inodeA (chunk l j)) (chunk l j)
def rowsTo (l : List Int) (n : Nat) : List (List Int) := (List.range n).map fun j => (decAt l j).1
def sizeOk (n : Nat) : Bool := decide (256 ≤ n) && (decide (n % 128 = 0) && decide (n ≤ 128128))
def tabEnd (r : List (List Int)) : Bool := decide ((r.getD 0 []).getD 0 0 = 0) && (decide (r.length ≤ 2) || !decide ((r.getD (r.length - 1) []).getD 0 0 = 0))
def chunksOk (l : List Int) (n : Nat) : Bool := (List.range n).all fun j => decide ((decAt l j).2 = 0)
def decTable (l : List Int) : List (List Int) × Int := if (sizeOk l.length && (chunksOk l (l.length / 128) && tabEnd (rowsTo l (l.length / 128)))) = true then (rowsTo l (l.length / 128), 0) else ([], 21)
theorem decAt_length (l : List Int) (j : Nat) : (decAt l j).1.length = 24 := by
  unfold decAt decI
  split
  · exact inodeA_length _
  · simp
theorem decAt_code (l : List Int) (j : Nat) (h : ¬ (decAt l j).2 = 0) : (decAt l j).2 = 21 := by
  unfold decAt decI at h ⊢
  split
  · rename_i hc
    rw [if_pos hc] at h
    exact absurd rfl h
  · rfl
theorem decAt_good (l : List Int) (j : Nat) (h : (decAt l j).2 = 0) : inodeGood (decAt l j).1 = true := by
  unfold decAt decI at h ⊢
  split
  · rename_i hc
    exact hc.2.1
  · rename_i hc
    rw [if_neg hc] at h
    cases h
theorem rowsTo_length (l : List Int) (n : Nat) : (rowsTo l n).length = n := by simp [rowsTo]
theorem rowsTo_succ (l : List Int) (n : Nat) : rowsTo l (n + 1) = rowsTo l n ++ [(decAt l n).1] := by
  unfold rowsTo
  rw [List.range_succ, List.map_append]
  rfl
theorem rowsTo_getD (l : List Int) (n j : Nat) (h : j < n) : (rowsTo l n).getD j [] = (decAt l j).1 := by
  simp [rowsTo, List.getD_eq_getElem?_getD, h]
theorem rowsTo_wide (l : List Int) (n : Nat) : ∀ x ∈ rowsTo l n, x.length = 24 := by
  intro x hx
  unfold rowsTo at hx
  obtain ⟨j, _, rfl⟩ := List.mem_map.1 hx
  exact decAt_length l j
theorem chunksOk_of {l : List Int} {n : Nat} (h : ∀ j, j < n → (decAt l j).2 = 0) : chunksOk l n = true := by
  unfold chunksOk
  rw [List.all_eq_true]
  exact fun j hj => decide_eq_true (h j (List.mem_range.1 hj))
theorem chunksOk_not {l : List Int} {n j : Nat} (hj : j < n) (h : ¬ (decAt l j).2 = 0) : chunksOk l n = false := by
  unfold chunksOk
  rw [List.all_eq_false]
  exact ⟨j, List.mem_range.2 hj, by simp [h]⟩
theorem rows_good {l : List Int} {n : Nat} (h : ∀ j, j < n → (decAt l j).2 = 0) : allGood (rowsTo l n) = true := by
  refine allGood_of (fun j hj => ?_)
  rw [rowsTo_length] at hj
  rw [rowsTo_getD l n j hj]
  exact decAt_good l j (h j hj)
theorem rows_last (r : List (List Int)) (h : 2 ≤ r.length) : lastOf r + 1 = (r.length : Int) ↔ (r.length ≤ 2 ∨ ¬ (r.getD (r.length - 1) []).getD 0 0 = 0) := by
  obtain ⟨n, hn⟩ : ∃ n, r.length = n + 1 := ⟨r.length - 1, by omega⟩
  have hr := lastK_range r n
  have e : lastOf r = if lastK r (n + 1) < 1 then 1 else lastK r (n + 1) := by unfold lastOf; rw [hn]
  rw [hn, Nat.add_sub_cancel]
  by_cases hk : (r.getD n []).getD 0 0 = 0
  · have e2 : lastK r (n + 1) = lastK r n := by rw [lastK, if_pos hk]
    rw [e, e2]
    constructor
    · intro h1
      left
      split at h1 <;> omega
    · rintro (h1 | h1)
      · split <;> omega
      · exact absurd hk h1
  · have e2 : lastK r (n + 1) = (n : Int) := by rw [lastK, if_neg hk]
    rw [e, e2]
    constructor
    · intro _
      exact .inr hk
    · intro _
      split <;> omega
theorem rows_first {r : List (List Int)} (h : 0 < r.length) (hg : allGood r = true) : firstZero r = decide ((r.getD 0 []).getD 0 0 = 0) := by
  have h0 : inodeGood (r.getD 0 []) = true := by
    rw [List.getD_eq_getElem?_getD, List.getElem?_eq_getElem h]
    exact List.all_eq_true.1 hg _ (List.getElem_mem h)
  unfold firstZero
  rw [decide_eq_false (show ¬ r.length = 0 by omega), Bool.false_or]
  exact decide_eq_decide.2 (good_kind h0).symm
theorem rows_small (r : List (List Int)) (h : r.length ≤ 1001) : lastOf r ≤ 1000 := by
  have hr := lastK_range r r.length
  unfold lastOf
  split <;> omega
end Go.Proofs.YtkghgjehjchajaaW.PrintTab3
