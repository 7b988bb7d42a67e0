/- A region that draws its order and whose last operation (a store ..) waits for all others. No condition. -/
import Derived.Test.YtkghgjehjchajaaDoorWGrow
namespace Go.Proofs.YtkghgjehjchajaaDoorW.PrintGrow
open Go Go.RowKit Go.Proofs.YtkghgjehjchajaaDoorW.PrintWords Go.Proofs.YtkghgjehjchajaaDoorW.PrintHand Go.Proofs.YtkghgjehjchajaaDoorW.PrintHx
set_option linter.unusedVariables false
section
variable {P : Program} {l : List Oper} {a0 : Act} {w0 : World} {Post : Nat → Value → World → Prop} {Q : Exit → Act → World → Prop}
/-- The last operation waits for all others: it is run behind them. -/
def lastB (l : List Oper) (m : Nat) : Bool := decide (l.length = m + 1) && match l[m]? with
  | some o => (List.range m).all fun j => needs o j
  | none => false
theorem grow_last {m : Nat} (hl : lastB l m = true) (hd : downB l = true) (hn : dstsB l a0.tmps.size = true) (hst : ∀ i v w w', Below w.heap.size w w' → Post i v w → Post i v w') (hs : ∀ i ∈ List.range m, StepG P l a0 w0 Post Q i)
    (hend : ∀ (vs : Nat → Value) w, Below w0.heap.size w0 w → (∀ i, i < m → Post i (vs i) w) → wpList P l.toArray Q (l.drop m) (fills a0 vs 0 (l.take m)) w) :
    ∀ (fuel : Nat) (b : Array Bool) (a : Act) (w : World), b.size = l.length → b.getD m true = false → ((List.range m).filter fun i => !b.getD i false).length = fuel → Inv l a0 w0 Post b a w → wpAny P .any l.toArray Q (fuel + 1) b a w := by
  have hlen : l.length = m + 1 := by
    unfold lastB at hl
    rw [Bool.and_eq_true] at hl
    exact of_decide_eq_true hl.1
  obtain ⟨om, hom⟩ : ∃ o, l[m]? = some o := ⟨_, List.getElem?_eq_getElem (by omega)⟩
  have hneed : ∀ j, j < m → needs om j = true := by
    unfold lastB at hl
    rw [Bool.and_eq_true, hom] at hl
    exact fun j hj => List.all_eq_true.1 hl.2 j (List.mem_range.2 hj)
  have hnd : (l.filterMap (·.dst)).Nodup := by
    unfold dstsB at hn
    rw [Bool.and_eq_true] at hn
    exact of_decide_eq_true hn.1
  have hlt : ∀ {i : Nat} {o : Oper} {t : Tmp}, l[i]? = some o → o.dst = some t → t < a0.tmps.size := by
    intro i o t hi ht
    unfold dstsB at hn
    rw [Bool.and_eq_true] at hn
    exact of_decide_eq_true (List.all_eq_true.1 hn.2 t (dst_mem (List.mem_of_getElem? hi) ht))
  have hdrop : l.drop m = [om] := by
    have h1 := List.drop_eq_getElem_cons (show m < l.length by omega)
    rw [List.getElem?_eq_getElem (show m < l.length by omega)] at hom
    rw [h1, List.drop_eq_nil_of_le (by omega), Option.some.inj hom]
  intro fuel
  induction fuel with
  | zero =>
    intro b a w hb hbm hc I
    have hall : ∀ i, i < m → b.getD i false = true := by
      intro i hi
      cases h : b.getD i false with
      | true => rfl
      | false =>
        have : i ∈ (List.range m).filter fun i => !b.getD i false := List.mem_filter.2 ⟨List.mem_range.2 hi, by simp [h]⟩
        rw [List.eq_nil_of_length_eq_zero hc] at this
        cases this
    have hmr : m ∈ Region.ready .any l.toArray b := mem_ready hom hbm (fun j hj => hall j (down_lt hd hom hj))
    have hex : ∀ i, i < m → ∃ v, (∀ o t, l[i]? = some o → o.dst = some t → a.tmps[t]? = some v) ∧ Post i v w := by
      intro i hi
      obtain ⟨v, h1, h2⟩ := I.done i l[i] (List.getElem?_eq_getElem (by omega)) (hall i hi)
      refine ⟨v, fun o t ho ht => h1 t ?_, h2⟩
      rw [List.getElem?_eq_getElem (show i < l.length by omega)] at ho
      rw [Option.some.inj ho]
      exact ht
    obtain ⟨vs, hvs⟩ := choose_all undef m hex
    have hnd2 : ((l.take m).filterMap (·.dst)).Nodup := by
      have := hnd
      rw [← List.take_append_drop m l, List.filterMap_append] at this
      exact (List.nodup_append.1 this).1
    have e : a = fills a0 vs 0 (l.take m) := by
      refine act_ext (Array.ext_getElem? fun t => ?_) (by rw [I.defers, fills_defers])
      by_cases ht : ∃ (i : Nat) (o : Oper), i < m ∧ l[i]? = some o ∧ o.dst = some t
      · obtain ⟨i, o, him, ho, hto⟩ := ht
        rw [fills_on vs hto (l.take m) 0 i a0 hnd2 (by rw [List.getElem?_take, if_pos him]; exact ho) (hlt ho hto), (hvs i him).1 o t ho hto, Nat.zero_add]
      · rw [fills_off vs (l.take m) 0 a0 (fun o ho hto => by
          obtain ⟨i, hi⟩ := List.mem_iff_getElem?.1 ho
          have him : i < m := by
            have := (List.getElem?_eq_some_iff.1 hi).1
            rw [List.length_take] at this
            omega
          rw [List.getElem?_take, if_pos him] at hi
          exact ht ⟨i, o, him, hi, hto⟩)]
        refine I.old t (fun i o ho hto => ?_)
        have hil := (List.getElem?_eq_some_iff.1 ho).1
        by_cases him : i < m
        · exact absurd ⟨i, o, him, ho, hto⟩ ht
        · rw [show i = m by omega]
          exact getD_both hbm
    have hk := hend vs w I.grown (fun i hi => (hvs i hi).2)
    rw [← e, hdrop] at hk
    refine ⟨fun hr => (by rw [hr] at hmr; cases hmr), fun i hi => ?_⟩
    obtain ⟨o, ho, h1, _⟩ := ready_mem hi
    have hil := (List.getElem?_eq_some_iff.1 ho).1
    have him : i = m := by
      by_cases him : i < m
      · have := hall i him
        rw [getD_both h1] at this
        cases this
      · omega
    subst him
    rw [hom] at ho
    cases ho
    have hnil : Region.ready .any l.toArray (b.setIfInBounds i true) = [] := by
      refine List.eq_nil_iff_forall_not_mem.2 (fun j hj => ?_)
      obtain ⟨oj, hoj, hj1, _⟩ := ready_mem hj
      have hjl := (List.getElem?_eq_some_iff.1 hoj).1
      by_cases hji : i = j
      · subst hji
        rw [set_same (by omega)] at hj1
        cases hj1
      · rw [set_ne hji] at hj1
        have := hall j (by omega)
        rw [getD_both hj1] at this
        cases this
    unfold wpOp
    have e2 : l.toArray[i]? = some om := by simpa using hom
    rw [e2]
    simp only []
    unfold wpList at hk
    split
    · rename_i hw
      rw [if_pos hw] at hk
      refine hk.imp (fun h => Oper.wp_mono (fun a' w' h' => ?_) h) id
      exact ⟨hnil, h'⟩
    · rename_i hw
      rw [if_neg hw] at hk
      exact ⟨hnil, hk⟩
  | succ fuel ih =>
    intro b a w hb hbm hc I
    have hex : ∃ i, i < m ∧ b.getD i false = false := by
      cases hf : (List.range m).filter (fun i => !b.getD i false) with
      | nil => rw [hf] at hc; simp at hc
      | cons x r =>
        have hx : x ∈ (List.range m).filter (fun i => !b.getD i false) := by rw [hf]; exact List.mem_cons_self
        rw [List.mem_filter, List.mem_range] at hx
        exact ⟨x, hx.1, by simpa using hx.2⟩
    refine ⟨fun hr => ?_, fun i hi => ?_⟩
    · exfalso
      have hmin : ∀ k i, i ≤ k → i < m → b.getD i false = false → ∃ j, j < m ∧ b.getD j false = false ∧ ∀ q, q < j → b.getD q false = true := by
        intro k
        induction k with
        | zero =>
          intro i h1 h2 h3
          exact ⟨i, h2, h3, fun q hq => by omega⟩
        | succ k ihk =>
          intro i h1 h2 h3
          by_cases hlow : ∃ j, j < i ∧ b.getD j false = false
          · obtain ⟨j, h4, h5⟩ := hlow
            exact ihk j (by omega) (by omega) h5
          · refine ⟨i, h2, h3, fun q hq => ?_⟩
            cases h : b.getD q false with
            | true => rfl
            | false => exact absurd ⟨q, hq, h⟩ hlow
      obtain ⟨i0, h1, h2⟩ := hex
      obtain ⟨i, h3, h4, h5⟩ := hmin i0 i0 (Nat.le_refl _) h1 h2
      have ho := List.getElem?_eq_getElem (show i < l.length by omega)
      have hb' : b.getD i true = false := by
        simp only [Array.getD_eq_getD_getElem?] at h4 ⊢
        have : b[i]? = some b[i] := Array.getElem?_eq_getElem (by omega)
        rw [this] at h4 ⊢
        simpa using h4
      have := mem_ready ho hb' (fun j hj => h5 j (down_lt hd ho hj))
      rw [hr] at this
      cases this
    · obtain ⟨o, ho, h1, h2⟩ := ready_mem hi
      have hil := (List.getElem?_eq_some_iff.1 ho).1
      have hbf := getD_both h1
      have him : i < m := by
        by_cases him : i < m
        · exact him
        · have hie : i = m := by omega
          subst hie
          rw [hom] at ho
          cases ho
          obtain ⟨j, hj, hjb⟩ := hex
          have := h2 j (hneed j hj)
          rw [hjb] at this
          cases this
      have hK : ∀ v w', Below w.heap.size w w' → Post i v w' → wpAny P .any l.toArray Q (fuel + 1) (b.setIfInBounds i true) (a.put o.dst v) w' := by
        intro v w' hg hp
        refine ih _ _ _ (by simpa using hb) (by rw [set_ne (by omega)]; exact hbm) ?_ (inv_next hn hst hb I ho hbf h2 hg hp)
        have := filter_less b i hbf (by omega) (List.range m) List.nodup_range (List.mem_range.2 him)
        omega
      have h3 := hs i (List.mem_range.2 him) o ho a w (inv_at hst I ho hbf h2) _ hK
      unfold wpOp
      have e : l.toArray[i]? = some o := by simpa using ho
      rw [e]
      simp only []
      split
      · rename_i hw
        rw [if_pos hw] at h3
        exact .inl h3
      · rename_i hw
        rw [if_neg hw] at h3
        exact h3
/-- A region whose last operation (a store ..) waits for all others. -/
theorem wp_region_grow_last {id : Nat} (m : Nat) (L : List (Value → World → Prop)) (hm : P.follows .mixedOrders = true) (hl : lastB l m = true) (hd : downB l = true) (hn : dstsB l a0.tmps.size = true) (hst : AllSt L) (hs : Steps P l a0 w0 (Posts L) Q (l.take m) 0)
    (hend : ∀ w, Below w0.heap.size w0 w → Ends (Posts L) (fun a => wpList P l.toArray Q (l.drop m) a w) w (l.take m) 0 a0) : (Code.region id l.toArray true).wp P Q a0 w0 := by
  refine wp_region_any hm ?_
  have hlen : l.length = m + 1 := by
    have h := hl
    unfold lastB at h
    rw [Bool.and_eq_true] at h
    exact of_decide_eq_true h.1
  have hz : ∀ i d, i < l.length → (Array.replicate l.toArray.size false).getD i d = false := by
    intro i d hi
    rw [Array.getD_eq_getD_getElem?, Array.getElem?_replicate, if_pos (by simpa using hi)]
    rfl
  have hz2 : ∀ i, (Array.replicate l.toArray.size false).getD i false = false := by
    intro i
    by_cases hi : i < l.length
    · exact hz i false hi
    · rw [Array.getD_eq_getD_getElem?, Array.getElem?_eq_none (by simpa using hi)]
      rfl
  have e0 : l.toArray.size = m + 1 := by simpa using hlen
  rw [e0]
  rw [e0] at hz hz2
  have htl : (l.take m).length = m := by rw [List.length_take]; omega
  refine grow_last hl hd hn (posts_stable hst) (fun i hi o ho => by
    have him := List.mem_range.1 hi
    have := steps_get hs (k := i) (o := o) (by rw [List.getElem?_take, if_pos him]; exact ho)
    rwa [Nat.zero_add] at this) (fun vs w hg hp => ends_fills (Q := fun a => wpList P l.toArray Q (l.drop m) a w) vs (l.take m) 0 a0 (hend w hg) (fun k hk => by rw [Nat.zero_add]; exact hp k (by omega))) m _ a0 _ (by simp; omega) (hz m true (by omega)) ?_ ⟨(Below.refl _ _).drew, rfl, rfl, fun _ _ => rfl, fun i o _ h => ?_, fun i o _ h => ?_⟩
  · have e : (List.range m).filter (fun i => !(Array.replicate (m + 1) false).getD i false) = List.range m := by
      refine List.filter_eq_self.2 (fun i _ => ?_)
      rw [hz2]
      rfl
    rw [e]
    simp
  · rw [hz2] at h
    cases h
  · rw [hz2] at h
    cases h
/-- A new variable, in a block from lo on. -/
def New (t : TypeId) (cs : Array Value) (lo : Nat) : Value → World → Prop := fun v w => ∃ g, lo ≤ g ∧ v = .pointer (some ⟨g, 0, none⟩) ∧ w.heap[g]? = some (.cells cs t (0, 0))
theorem st_new {t : TypeId} {cs : Array Value} {lo : Nat} : Stable (New t cs lo) := by
  rintro v w w' hb ⟨g, h1, h2, h3⟩
  exact ⟨g, h1, h2, blk_below h3 hb⟩
theorem stepO_alloc {i : Nat} {o : Oper} (hgd : o.guard = none) (ds : List (Nat × Tmp)) (os : List Tmp) (hc : depsB l i o ds os = true) {t : TypeId} (ho : o.op = .alloc t) (z : Value) (zs : Array Value) (hz : ∀ w, (zeroValue t).run P w = .ok z w) (hzs : z.cells = zs)
    (hp : ∀ v w, New t zs w0.heap.size v w → Post i v w) : StepO P l a0 w0 Post Q i o := by
  refine stepO_run hgd ds os hc (fun a w hg hf => ?_)
  subst hzs
  have hrun : (execOp a.eval o).run P w = .ok (.value (.pointer (some ⟨w.heap.size, 0, none⟩))) (w.alloc (.cells z.cells t)) := by
    unfold execOp
    simp only [ho, Instr.alloc, Sem.run_bind, hz, Result.andThen_ok, newVar, newRow, run_newObj_alloc, Sem.run_pure]
  exact ⟨_, _, hrun, below_alloc (Below.refl _ _) _, hp _ _ ⟨w.heap.size, hg.size, rfl, blk_new _ _⟩⟩
end
end Go.Proofs.YtkghgjehjchajaaDoorW.PrintGrow
