/- '==' of structs and arrays of whole numbers, each told as one list. No condition. -/
import Derived.Test.YtknlpjoidjgciaaDoorWHxS
import Derived.Test.YtknlpjoidjgciaaDoorWEqStruct
import Derived.ChangeKeysEq
namespace Go.Proofs.YtknlpjoidjgciaaDoorW.PrintEqW
open Go Go.RowKit Go.Proofs.YtknlpjoidjgciaaDoorW.PrintWords Go.Proofs.YtknlpjoidjgciaaDoorW.PrintHand Go.Proofs.YtknlpjoidjgciaaDoorW.PrintHx
set_option linter.unusedVariables false
def aggD : TypeDesc → Bool
  | .struct _ => true
  | .array _ _ => true
  | _ => false
section
variable {P : Program}
theorem part_num {e : TypeId} {k : IntKind} (he : P.underlying e = some (.int k)) (L : List Int) (off : Nat) (h : off < L.length) (w : World) : (part e (nums .i64 L).toArray off).run P w = .ok (.int .i64 (L.getD off 0)) w := by
  have hagg : (isAgg e).run P w = .ok false w := by
    unfold isAgg
    rw [Sem.run_bind, run_underlying he w]
    rfl
  simp [part, Sem.run_bind, hagg, nums, List.getElem?_eq_getElem h]
theorem part_wide {t : TypeId} {d : TypeDesc} (hu : P.underlying t = some d) (hd : aggD d = true) {m : Nat} (hi : (P.info? t).map (·.size) = some m) (L : List Int) (off : Nat) (w : World) : (part t (nums .i64 L).toArray off).run P w = .ok (.agg (nums .i64 (seg L off m)).toArray) w := by
  have hagg : (isAgg t).run P w = .ok true w := by
    unfold isAgg
    rw [Sem.run_bind, run_underlying hu w]
    cases d <;> simp_all [aggD]
  obtain ⟨i, hq, hs⟩ := Option.map_eq_some_iff.1 hi
  have e : List.take m (List.drop off (nums .i64 L)) = nums .i64 (seg L off m) := by simp [nums, seg]
  simp [part, Sem.run_bind, hagg, sizeOf, typeInfo, hq, hs, e]
/-- '==' at type t (n numbers), at any depth from D on. -/
def EqW (P : Program) (t n D : Nat) : Prop := ∀ (d : Nat) (a b : List Int) (w : World), a.length = n → b.length = n → (Op.equalIn (d + D) t (.agg (nums .i64 a).toArray) (.agg (nums .i64 b).toArray)).run P w = .ok (decide (a = b)) w
theorem items_ints (d : Nat) {e : TypeId} (he : P.underlying e = some (.int .i64)) (hc : P.cellsOf e = 1) (a b : List Int) (w : World) : ∀ (is : List Nat), (∀ i ∈ is, i < a.length ∧ i < b.length) →
    (Op.eqItems (d + 1) e (P.cellsOf e) (nums .i64 a).toArray (nums .i64 b).toArray is).run P w = .ok (is.all fun i => a.getD i 0 == b.getD i 0) w
  | [], _ => by simp [Op.eqItems]
  | i :: is, h => by
    have hi := h i List.mem_cons_self
    have ih := items_ints d he hc a b w is (fun j hj => h j (List.mem_cons_of_mem _ hj))
    rw [hc] at ih ⊢
    simp only [Op.eqItems, Sem.run_bind, Nat.mul_one, part_num he a i hi.1 w, part_num he b i hi.2 w, Result.andThen_ok, run_equalIn_int w d e .i64 .i64 _ _ he, List.all_cons]
    cases hq : (a.getD i 0 == b.getD i 0)
    · simp
    · simpa using ih
theorem all_getD {n : Nat} {a b : List Int} (ha : a.length = n) (hb : b.length = n) : ((List.range n).all fun i => a.getD i 0 == b.getD i 0) = decide (a = b) := by
  by_cases h : a = b
  · subst h
    simp
  · rw [decide_eq_false h]
    cases hq : ((List.range n).all fun i => a.getD i 0 == b.getD i 0) with
    | false => rfl
    | true =>
      refine absurd ?_ h
      apply List.ext_getElem (by omega)
      intro i h1 h2
      have := List.all_eq_true.1 hq i (List.mem_range.2 (by omega))
      rw [beq_iff_eq, List.getD_eq_getElem?_getD, List.getD_eq_getElem?_getD, List.getElem?_eq_getElem h1, List.getElem?_eq_getElem h2] at this
      simpa using this
theorem eqw_array {t e : TypeId} {n : Nat} (ht : P.underlying t = some (.array n e)) (he : P.underlying e = some (.int .i64)) (hi : (P.info? e).isSome = true) (hc : P.cellsOf e = 1) : EqW P t n 2 := by
  intro d a b w ha hb
  obtain ⟨i, hi⟩ := Option.isSome_iff_exists.1 hi
  rw [show d + 2 = (d + 1) + 1 by omega, run_equalIn_array w (d + 1) _ _ ht hi, items_ints d he hc a b w _ (fun j hj => by have := List.mem_range.1 hj; omega), all_getD ha hb]
/-- Fields from offset o on. -/
def FieldsW (P : Program) (d : Nat) (fs : List Field) (o n : Nat) : Prop := ∀ (a b : List Int) (w : World), a.length = n → b.length = n → (Op.eqFields d (nums .i64 a).toArray (nums .i64 b).toArray fs).run P w = .ok (decide (a.drop o = b.drop o)) w
theorem fw_nil {d n : Nat} : FieldsW P d [] n n := by
  intro a b w ha hb
  rw [List.drop_eq_nil_of_le (by omega), List.drop_eq_nil_of_le (by omega)]
  simp [Op.eqFields]
theorem fw_int {d o n : Nat} {f : Field} {fs : List Field} (hn : (f.name == "_") = false) (ho : f.offset = o) (he : P.underlying f.type = some (.int .i64)) (hlt : o < n) (h : FieldsW P (d + 1) fs (o + 1) n) : FieldsW P (d + 1) (f :: fs) o n := by
  intro a b w ha hb
  subst ho
  have h1 := part_num he a f.offset (by omega) w
  have h2 := part_num he b f.offset (by omega) w
  rw [eqf_cons hn h1 h2 (run_equalIn_int w d f.type .i64 .i64 _ _ he) (h a b w ha hb)]
  have e : ((a.getD f.offset 0 == b.getD f.offset 0) && decide (a.drop (f.offset + 1) = b.drop (f.offset + 1))) = decide (a.drop f.offset = b.drop f.offset) := by
    have ha' : f.offset < a.length := by omega
    have hb' : f.offset < b.length := by omega
    rw [List.drop_eq_getElem_cons ha', List.drop_eq_getElem_cons hb', List.getD_eq_getElem?_getD, List.getD_eq_getElem?_getD, List.getElem?_eq_getElem ha', List.getElem?_eq_getElem hb']
    simp only [Option.getD_some, List.cons.injEq, Bool.decide_and]
    rfl
  rw [e]
theorem fw_wide {d o n m D : Nat} {f : Field} {fs : List Field} {td : TypeDesc} (hn : (f.name == "_") = false) (ho : f.offset = o) (hu : P.underlying f.type = some td) (hd : aggD td = true) (hi : (P.info? f.type).map (·.size) = some m) (hle : o + m ≤ n) (hE : EqW P f.type m D) (h : FieldsW P (d + D) fs (o + m) n) : FieldsW P (d + D) (f :: fs) o n := by
  intro a b w ha hb
  subst ho
  have h1 := part_wide hu hd hi a f.offset w
  have h2 := part_wide hu hd hi b f.offset w
  have l1 : (seg a f.offset m).length = m := part_len ha hle
  have l2 : (seg b f.offset m).length = m := part_len hb hle
  rw [eqf_cons hn h1 h2 (hE d _ _ w l1 l2) (h a b w ha hb)]
  have e : (decide (seg a f.offset m = seg b f.offset m) && decide (a.drop (f.offset + m) = b.drop (f.offset + m))) = decide (a.drop f.offset = b.drop f.offset) := by
    rw [← Bool.decide_and]
    refine decide_eq_decide.2 ⟨fun ⟨h3, h4⟩ => ?_, fun h3 => ⟨by unfold seg; rw [h3], by rw [← List.drop_drop, ← List.drop_drop, h3]⟩⟩
    unfold seg at h3
    rw [← List.drop_drop, ← List.drop_drop] at h4
    rw [← List.take_append_drop m (a.drop f.offset), ← List.take_append_drop m (b.drop f.offset), h3, h4]
  rw [e]
theorem eqw_struct {t n D : Nat} {fs : Array Field} (hu : P.underlying t = some (.struct fs)) (hp : P.stoodInHeld t = false) (h : ∀ d, FieldsW P (d + D) fs.toList 0 n) : EqW P t n (D + 1) := by
  intro d a b w ha hb
  rw [show d + (D + 1) = (d + D) + 1 by omega, eqA_of hu hp (h d a b w ha hb)]
  simp
theorem eqw_binop {t n D : Nat} (h : EqW P t n D) (hD : D ≤ 10000) (a b : List Int) (w : World) (ha : a.length = n) (hb : b.length = n) : (binOp .eql t (.agg (nums .i64 a).toArray) (.agg (nums .i64 b).toArray)).run P w = .ok (.bool (decide (a = b))) w := by
  obtain ⟨d, hd⟩ : ∃ d, 10000 = d + D := ⟨10000 - D, by omega⟩
  rw [run_eql_struct, hd, h d a b w ha hb]
  rfl
/-- '==' of two values told as lists, one step of a walk. -/
theorem wpList_eqw {ops : Array Oper} {rest : List Oper} {o : Oper} {a : Act} {w : World} {Q : Exit → Act → World → Prop} {t n D : Nat} (hgd : o.guard = none) (x y : Operand) (u : TypeId) (ho : o.op = .binOp .eql t x y u) (h : EqW P t n D) (hD : D ≤ 10000) (hm : P.eqGuardType P.depth t = false)
    (la lb : List Int) (hx : a.eval x = .agg (nums .i64 la).toArray) (hy : a.eval y = .agg (nums .i64 lb).toArray) (ha : la.length = n) (hb : lb.length = n)
    (hk : wpList P ops Q rest (a.put o.dst (.bool (decide (la = lb)))) w) : wpList P ops Q (o :: rest) a w := by
  refine wpList_plain hgd fun K hK => ?_
  have hr := eqw_binop h hD la lb w ha hb
  have hg := run_eqGuard_agg (P := P) w .eql t x y (nums .i64 la).toArray (nums .i64 lb).toArray hm
  unfold Oper.wp execOp
  simp only [ho, hx, hy, Sem.run_bind, hg, hr, Result.andThen_ok, Sem.run_pure, Oper.upon_value]
  exact hK _ _ hk
end
end Go.Proofs.YtknlpjoidjgciaaDoorW.PrintEqW
