/- Root records: which are right, their bytes. No condition. -/
import Derived.Test.YtknlpjoidjgciaaDoorWTab3
import Derived.Test.YtknlpjoidjgciaaDoorWGrowT
import Derived.Test.YtknlpjoidjgciaaDoorWIno
namespace Go.Proofs.YtknlpjoidjgciaaDoorW.PrintFsi
open Go.RowKit Go.Proofs.YtknlpjoidjgciaaDoorW.PrintWords Go.Proofs.YtknlpjoidjgciaaDoorW.PrintHand Go.Proofs.YtknlpjoidjgciaaDoorW.PrintHx Go.Proofs.YtknlpjoidjgciaaDoorW.PrintLe Go.Proofs.YtknlpjoidjgciaaDoorW.PrintIno Go.Proofs.YtknlpjoidjgciaaDoorW.PrintRaw
set_option linter.unusedVariables false
set_option linter.unusedSimpArgs false
section
variable {P : Program} {ops : Array Oper} {rest : List Oper} {o : Oper} {a : Act} {w : World} {Q : Exit → Act → World → Prop}
/-- '!=' of two numbers, as a letter. -/
theorem hx_neqi (hgd : o.guard = none) (t u : TypeId) (x y : Operand) (ho : o.op = .binOp .neq t x y u) (ht : P.underlying t = some (.int .i64)) (p q : Int) (hx : a.eval x = .int .i64 p) (hy : a.eval y = .int .i64 q)
    (b : Bool) (hb : Aside0 ((p != q) = b)) (h : wpList P ops Q rest (a.put o.dst (.bool b)) w) : wpList P ops Q (o :: rest) a w := by
  obtain rfl := hb.out
  refine wpList_plain hgd fun K hK => ?_
  have hg : (eqGuard .neq t x y (.int .i64 p) (.int .i64 q)).run P w = .ok () w := by simp [eqGuard]
  have hr : (binOp .neq t (.int .i64 p) (.int .i64 q)).run P w = .ok (.bool (p != q)) w := by
    have h1 := run_equalIn_int (P := P) w 9999 t .i64 .i64 p q ht
    simp only [binOp]
    simp [Op.equal, Op.maxDepth, h1]
    rfl
  unfold Oper.wp execOp
  simp only [ho, hx, hy, Sem.run_bind, hg, hr, Result.andThen_ok, Sem.run_pure, Oper.upon_value]
  exact hK _ _ h
end
def sizeI (z : Int) : Bool := decide (256 ≤ z) && (decide (z % 128 = 0) && decide (z ≤ 128128))
def fsI (a : List Int) : List Int := seg a 7 15
def fsM (a : List Int) : List Int := seg a 22 15
def fsS (a : List Int) : List Int := seg a 37 31
def fsPtrs (a : List Int) : List Int := (seg (fsI a) 1 14 ++ seg (fsM a) 1 14) ++ fsS a
def fsPtr (n p : Int) : Bool := ptrOk p && decide (p < n)
def fsTop (x0 x1 x2 x3 x4 x5 x6 yi ym : Int) (ri rm al : Bool) : Bool := rng x0 1 1099511627776 && (rng x3 1 1099511627776 && (rng x4 0 1099511627776 && (rng x1 64 2048 && (rng x2 2 (x1 - 1) && (rng x5 0 1000 && ((decide (x6 = 0) || rng x6 8192 65536) && (ri && (rm && (decide (ym = 4 * x1) && (sizeI yi && al))))))))))
def fsGood (a : List Int) : Bool := fsTop (a.getD 0 0) (a.getD 1 0) (a.getD 2 0) (a.getD 3 0) (a.getD 4 0) (a.getD 5 0) (a.getD 6 0) (a.getD 7 0) (a.getD 22 0) (rootGood (fsI a)) (rootGood (fsM a)) ((fsPtrs a).all (fsPtr (a.getD 1 0)))
/-- As the walk finds it. -/
theorem fsTop_w (x0 x1 x2 x3 x4 x5 x6 yi ym : Int) (ri rm al b0 b1 b2 b3 b4 b5 bz b6 bm b9 : Bool) (h0 : rng x0 1 1099511627776 = b0) (h1 : rng x3 1 1099511627776 = b1) (h2 : rng x4 0 1099511627776 = b2) (h3 : rng x1 64 2048 = b3) (h4 : rng x2 2 (wrap64 (x1 - 1)) = b4) (h5 : rng x5 0 1000 = b5) (hz : (x6 != 0) = bz) (h6 : rng x6 8192 65536 = b6) (hm : (ym != wrap64 (4 * x1)) = bm) (h9 : sizeI yi = b9) :
    fsTop x0 x1 x2 x3 x4 x5 x6 yi ym ri rm al = (b0 && (b1 && (b2 && (b3 && (b4 && (b5 && ((!bz || b6) && (ri && (rm && (!bm && (b9 && al))))))))))) := by
  unfold fsTop
  rw [h0, h1, h2, h3, h5, h6, h9]
  have ez : decide (x6 = 0) = !bz := by
    rw [← hz]
    by_cases c : x6 = 0
    · rw [c]; rfl
    · rw [decide_eq_false c, bne_iff_ne.2 c]; rfl
  rw [ez]
  cases b3 with
  | false => simp
  | true =>
    have hr := rng_of h3
    have e1 : wrap64 (x1 - 1) = x1 - 1 := by unfold wrap64; omega
    have e2 : wrap64 (4 * x1) = 4 * x1 := by unfold wrap64; omega
    rw [e1] at h4
    rw [e2] at hm
    have em : decide (ym = 4 * x1) = !bm := by
      rw [← hm]
      by_cases c : ym = 4 * x1
      · rw [c]; simp
      · rw [decide_eq_false c, bne_iff_ne.2 c]; rfl
    rw [h4, em]
theorem size_i (z : Int) : (if z ≥ 256 then (if (Int.tmod z 128) = 0 then (some (decide (z ≤ 128128))) else (some false)) else (some false)) = some (sizeI z) := by
  unfold sizeI
  by_cases h1 : 256 ≤ z
  · rw [if_pos h1, decide_eq_true h1, Int.tmod_eq_emod_of_nonneg (by omega)]
    by_cases h2 : z % 128 = 0
    · rw [if_pos h2, decide_eq_true h2]; rfl
    · rw [if_neg h2, decide_eq_false h2]; rfl
  · rw [if_neg h1, decide_eq_false h1]; rfl
theorem within_i (x lo hi : Int) : (if x ≥ lo then (some (decide (x ≤ hi))) else (some false)) = some (rng x lo hi) := by
  unfold rng
  by_cases h1 : lo ≤ x
  · rw [if_pos h1]; simp [h1]
  · rw [if_neg h1]; simp [h1]
theorem ptr_i (p : Int) : (if p = 0 then (some true) else (if p ≥ 2 then (some (decide (p < 2048))) else (some false))) = some (ptrOk p) := by
  unfold ptrOk
  by_cases h0 : p = 0
  · rw [if_pos h0]; simp [h0]
  · rw [if_neg h0]
    by_cases h1 : p ≥ 2
    · rw [if_pos h1]; simp [h0, h1]
    · rw [if_neg h1]; simp [h0, h1]
/-- The other form of a pointer's test. -/
theorem ptr_j (p n : Int) (h : 64 ≤ n ∧ n ≤ 2048) : (if p = 0 then (some true) else (some (rng p 2 (wrap64 (n - 1))))) = some (fsPtr n p) := by
  have e : wrap64 (n - 1) = n - 1 := by unfold wrap64; omega
  rw [e]
  unfold fsPtr ptrOk rng
  by_cases h0 : p = 0
  · rw [if_pos h0]
    simp [h0]
    omega
  · rw [if_neg h0]
    simp only [h0, decide_false, Bool.false_or]
    congr 1
    by_cases h1 : 2 ≤ p
    · by_cases h2 : p < n
      · simp [h1, h2]; omega
      · simp [h1, h2]; omega
    · simp [h1]
theorem fsPtrs_length {a : List Int} (h : a.length = 68) : (fsPtrs a).length = 59 := by
  have h1 : (fsI a).length = 15 := part_len h (by decide)
  have h2 : (fsM a).length = 15 := part_len h (by decide)
  have h3 : (fsS a).length = 31 := part_len h (by decide)
  unfold fsPtrs
  rw [List.length_append, List.length_append, part_len h1 (by decide), part_len h2 (by decide), h3]
theorem all_of {l : List Int} {f : Int → Bool} (h : ∀ j, j < l.length → f (l.getD j 0) = true) : l.all f = true := by
  rw [List.all_eq_true]
  intro x hx
  obtain ⟨j, hj, rfl⟩ := List.getElem_of_mem hx
  have := h j hj
  rw [List.getD_eq_getElem?_getD, List.getElem?_eq_getElem hj] at this
  exact this
theorem all_not {l : List Int} {f : Int → Bool} {j : Nat} (hj : j < l.length) (h : f (l.getD j 0) = false) : l.all f = false := by
  rw [List.all_eq_false]
  refine ⟨l[j], List.getElem_mem hj, ?_⟩
  rw [List.getD_eq_getElem?_getD, List.getElem?_eq_getElem hj] at h
  simpa using h
theorem seg_get (a : List Int) (o m i : Nat) (hi : i < m) : (seg a o m).getD i 0 = a.getD (o + i) 0 := seg_getD a o m i hi
end Go.Proofs.YtknlpjoidjgciaaDoorW.PrintFsi
