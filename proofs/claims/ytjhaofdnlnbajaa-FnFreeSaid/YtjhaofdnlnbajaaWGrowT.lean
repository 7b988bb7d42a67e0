/- A region that draws its order: operations that only make new memory first, in any order; then a tail in one forced order (an append, a store ..). No condition. -/
import Derived.Test.YtjhaofdnlnbajaaWGrow
import Derived.StillTail
namespace Go.Proofs.YtjhaofdnlnbajaaW.PrintGrow
open Go Go.RowKit Go.Proofs.YtjhaofdnlnbajaaW.PrintWords Go.Proofs.YtjhaofdnlnbajaaW.PrintHand Go.Proofs.YtjhaofdnlnbajaaW.PrintHx
set_option linter.unusedVariables false
section
variable {P : Program} {l : List Oper} {a0 : Act} {w0 : World} {Post : Nat → Value → World → Prop} {Q : Exit → Act → World → Prop}
/-- From operation m on there is one order, behind all others. -/
def tailB (l : List Oper) (m : Nat) : Bool := decide (m < l.length) && (Region.sinkB .any l.toArray m && (Region.chainB .any l.toArray m && Region.seqB .any l.toArray (l.length - m) m (mask l.length m)))
theorem mask_of {b : Array Bool} {n m : Nat} (hb : b.size = n) (h1 : ∀ i, i < m → i < n → b.getD i false = true) (h2 : ∀ i, m ≤ i → b.getD i false = false) : b = mask n m := by
  apply Array.ext
  · rw [hb, mask_size]
  · intro i hi h3
    have hin : i < n := by rw [← hb]; exact hi
    have e1 : b.getD i false = b[i] := by simp [hi]
    have e2 := mask_get n m i hin false
    have e3 : (mask n m).getD i false = (mask n m)[i] := by simp [h3]
    rw [← e1, ← e3, e2]
    by_cases him : i < m
    · rw [h1 i him hin, decide_eq_true him]
    · rw [h2 i (by omega), decide_eq_false him]
theorem grow_tail {m : Nat} (hl : tailB l m = true) (hd : downB l = true) (hn : dstsB l a0.tmps.size = true) (hst : ∀ i v w w', Below w.heap.size w w' → Post i v w → Post i v w') (hs : ∀ i ∈ List.range m, StepG P l a0 w0 Post Q i)
    (hend : ∀ (vs : Nat → Value) w, Below w0.heap.size w0 w → (∀ i, i < m → Post i (vs i) w) → wpList P l.toArray Q (l.drop m) (fills a0 vs 0 (l.take m)) w) :
    ∀ (fuel : Nat) (b : Array Bool) (a : Act) (w : World), b.size = l.length → (∀ t, m ≤ t → b.getD t false = false) → ((List.range m).filter fun i => !b.getD i false).length = fuel → Inv l a0 w0 Post b a w → wpAny P .any l.toArray Q (fuel + (l.length - m)) b a w := by
  have hl0 := hl
  unfold tailB at hl0
  simp only [Bool.and_eq_true, decide_eq_true_eq] at hl0
  obtain ⟨hml, hsink, hchain, hseq⟩ := hl0
  have hnd : (l.filterMap (·.dst)).Nodup := by
    unfold dstsB at hn
    rw [Bool.and_eq_true] at hn
    exact of_decide_eq_true hn.1
  have hlt : ∀ {i : Nat} {o : Oper} {t : Tmp}, l[i]? = some o → o.dst = some t → t < a0.tmps.size := by
    intro i o t hi ht
    unfold dstsB at hn
    rw [Bool.and_eq_true] at hn
    exact of_decide_eq_true (List.all_eq_true.1 hn.2 t (dst_mem (List.mem_of_getElem? hi) ht))
  intro fuel
  induction fuel with
  | zero =>
    intro b a w hb hbm hc I
    have hall : ∀ i, i < m → b.getD i false = true := by
      intro i hi
      cases h : b.getD i false with
      | true => rfl
      | false =>
        have : i ∈ (List.range m).filter fun i => !b.getD i false := List.mem_filter.2 ⟨List.mem_range.2 hi, by simp [h]⟩
        rw [List.eq_nil_of_length_eq_zero hc] at this
        cases this
    have hex : ∀ i, i < m → ∃ v, (∀ o t, l[i]? = some o → o.dst = some t → a.tmps[t]? = some v) ∧ Post i v w := by
      intro i hi
      obtain ⟨v, h1, h2⟩ := I.done i l[i] (List.getElem?_eq_getElem (by omega)) (hall i hi)
      refine ⟨v, fun o t ho ht => h1 t ?_, h2⟩
      rw [List.getElem?_eq_getElem (show i < l.length by omega)] at ho
      rw [Option.some.inj ho]
      exact ht
    obtain ⟨vs, hvs⟩ := choose_all undef m hex
    have hnd2 : ((l.take m).filterMap (·.dst)).Nodup := by
      have := hnd
      rw [← List.take_append_drop m l, List.filterMap_append] at this
      exact (List.nodup_append.1 this).1
    have e : a = fills a0 vs 0 (l.take m) := by
      refine act_ext (Array.ext_getElem? fun t => ?_) (by rw [I.defers, fills_defers])
      by_cases ht : ∃ (i : Nat) (o : Oper), i < m ∧ l[i]? = some o ∧ o.dst = some t
      · obtain ⟨i, o, him, ho, hto⟩ := ht
        rw [fills_on vs hto (l.take m) 0 i a0 hnd2 (by rw [List.getElem?_take, if_pos him]; exact ho) (hlt ho hto), (hvs i him).1 o t ho hto, Nat.zero_add]
      · rw [fills_off vs (l.take m) 0 a0 (fun o ho hto => by
          obtain ⟨i, hi⟩ := List.mem_iff_getElem?.1 ho
          have him : i < m := by
            have := (List.getElem?_eq_some_iff.1 hi).1
            rw [List.length_take] at this
            omega
          rw [List.getElem?_take, if_pos him] at hi
          exact ht ⟨i, o, him, hi, hto⟩)]
        refine I.old t (fun i o ho hto => ?_)
        have hil := (List.getElem?_eq_some_iff.1 ho).1
        by_cases him : i < m
        · exact absurd ⟨i, o, him, ho, hto⟩ ht
        · exact hbm i (by omega)
    have hk := hend vs w I.grown (fun i hi => (hvs i hi).2)
    rw [← e] at hk
    have hbe : b = mask l.length m := mask_of hb (fun i hi _ => hall i hi) hbm
    have hsq := wpAny_of_seq (md := .any) (Q' := Q) (l.drop m) m b a w (fun j => by simp [List.getElem?_drop]) (by rw [hbe, List.length_drop]; exact hseq) hk
    rw [List.length_drop] at hsq
    rw [Nat.zero_add]
    exact hsq
  | succ fuel ih =>
    intro b a w hb hbm hc I
    have hex : ∃ i, i < m ∧ b.getD i false = false := by
      cases hf : (List.range m).filter (fun i => !b.getD i false) with
      | nil => rw [hf] at hc; simp at hc
      | cons x r =>
        have hx : x ∈ (List.range m).filter (fun i => !b.getD i false) := by rw [hf]; exact List.mem_cons_self
        rw [List.mem_filter, List.mem_range] at hx
        exact ⟨x, hx.1, by simpa using hx.2⟩
    rw [show fuel + 1 + (l.length - m) = (fuel + (l.length - m)) + 1 by omega]
    refine ⟨fun hr => ?_, fun i hi => ?_⟩
    · exfalso
      have hmin : ∀ k i, i ≤ k → i < m → b.getD i false = false → ∃ j, j < m ∧ b.getD j false = false ∧ ∀ q, q < j → b.getD q false = true := by
        intro k
        induction k with
        | zero =>
          intro i h1 h2 h3
          exact ⟨i, h2, h3, fun q hq => by omega⟩
        | succ k ihk =>
          intro i h1 h2 h3
          by_cases hlow : ∃ j, j < i ∧ b.getD j false = false
          · obtain ⟨j, h4, h5⟩ := hlow
            exact ihk j (by omega) (by omega) h5
          · refine ⟨i, h2, h3, fun q hq => ?_⟩
            cases h : b.getD q false with
            | true => rfl
            | false => exact absurd ⟨q, hq, h⟩ hlow
      obtain ⟨i0, h1, h2⟩ := hex
      obtain ⟨i, h3, h4, h5⟩ := hmin i0 i0 (Nat.le_refl _) h1 h2
      have ho := List.getElem?_eq_getElem (show i < l.length by omega)
      have hb' : b.getD i true = false := by
        simp only [Array.getD_eq_getD_getElem?] at h4 ⊢
        have : b[i]? = some b[i] := Array.getElem?_eq_getElem (by omega)
        rw [this] at h4 ⊢
        simpa using h4
      have := mem_ready ho hb' (fun j hj => h5 j (down_lt hd ho hj))
      rw [hr] at this
      cases this
    · obtain ⟨o, ho, h1, h2⟩ := ready_mem hi
      have hil := (List.getElem?_eq_some_iff.1 ho).1
      have hbf := getD_both h1
      have him : i < m := by
        by_cases him : i < m
        · exact him
        · obtain ⟨j, hj, hjb⟩ := hex
          have hinv : HeadInv .any l.toArray m b := ⟨by simpa using hb, fun q oq hq hlq e he hbn => I.shut q oq (by simpa using hq) hlq e.on (by
            unfold needs
            exact Array.any_eq_true'.2 ⟨e, he, by simp [hbn]⟩), fun t ht htl => getD_in (by rw [hb]; simpa using htl) (hbm t ht)⟩
          exact absurd hi (tail_waits hsink hchain (by simpa using hml) hinv _ j rfl hj (getD_in (by omega) hjb) i (by omega))
      have hK : ∀ v w', Below w.heap.size w w' → Post i v w' → wpAny P .any l.toArray Q (fuel + (l.length - m)) (b.setIfInBounds i true) (a.put o.dst v) w' := by
        intro v w' hg hp
        refine ih _ _ _ (by simpa using hb) (fun t ht => by rw [set_ne (by omega)]; exact hbm t ht) ?_ (inv_next hn hst hb I ho hbf h2 hg hp)
        have := filter_less b i hbf (by omega) (List.range m) List.nodup_range (List.mem_range.2 him)
        omega
      have h3 := hs i (List.mem_range.2 him) o ho a w (inv_at hst I ho hbf h2) _ hK
      unfold wpOp
      have e : l.toArray[i]? = some o := by simpa using ho
      rw [e]
      simp only []
      split
      · rename_i hw
        rw [if_pos hw] at h3
        exact .inl h3
      · rename_i hw
        rw [if_neg hw] at h3
        exact h3
/-- A region whose tail has one order, behind all others. -/
theorem wp_region_grow_tail {id : Nat} (m : Nat) (L : List (Value → World → Prop)) (hm : P.follows .mixedOrders = true) (hl : tailB l m = true) (hd : downB l = true) (hn : dstsB l a0.tmps.size = true) (hst : AllSt L) (hs : Steps P l a0 w0 (Posts L) Q (l.take m) 0)
    (hend : ∀ w, Below w0.heap.size w0 w → Ends (Posts L) (fun a => wpList P l.toArray Q (l.drop m) a w) w (l.take m) 0 a0) : (Code.region id l.toArray true).wp P Q a0 w0 := by
  refine wp_region_any hm ?_
  have hl0 := hl
  unfold tailB at hl0
  simp only [Bool.and_eq_true, decide_eq_true_eq] at hl0
  have hlen := hl0.1
  have hz : ∀ i d, i < l.length → (Array.replicate l.toArray.size false).getD i d = false := by
    intro i d hi
    rw [Array.getD_eq_getD_getElem?, Array.getElem?_replicate, if_pos (by simpa using hi)]
    rfl
  have hz2 : ∀ i, (Array.replicate l.toArray.size false).getD i false = false := by
    intro i
    by_cases hi : i < l.length
    · exact hz i false hi
    · rw [Array.getD_eq_getD_getElem?, Array.getElem?_eq_none (by simpa using hi)]
      rfl
  have e0 : l.toArray.size = m + (l.length - m) := by simp; omega
  rw [e0]
  rw [e0] at hz hz2
  have htl : (l.take m).length = m := by rw [List.length_take]; omega
  refine grow_tail hl hd hn (posts_stable hst) (fun i hi o ho => by
    have him := List.mem_range.1 hi
    have := steps_get hs (k := i) (o := o) (by rw [List.getElem?_take, if_pos him]; exact ho)
    rwa [Nat.zero_add] at this) (fun vs w hg hp => ends_fills (Q := fun a => wpList P l.toArray Q (l.drop m) a w) vs (l.take m) 0 a0 (hend w hg) (fun k hk => by rw [Nat.zero_add]; exact hp k (by omega))) m _ a0 _ (by simp; omega) (fun t _ => hz2 t) ?_ ⟨(Below.refl _ _).drew, rfl, rfl, fun _ _ => rfl, fun i o _ h => ?_, fun i o _ h => ?_⟩
  · have e : (List.range m).filter (fun i => !(Array.replicate (m + (l.length - m)) false).getD i false) = List.range m := by
      refine List.filter_eq_self.2 (fun i _ => ?_)
      rw [hz2]
      rfl
    rw [e]
    simp
  · rw [hz2] at h
    cases h
  · rw [hz2] at h
    cases h
end
end Go.Proofs.YtjhaofdnlnbajaaW.PrintGrow
