/- A region that draws its order and whose operations let all old memory lie (reads, calls, literals, conversions): each operation is shown once, out of what it needs. No condition. -/
import Derived.Test.YtkghgjehjchajaaWHxS
import Derived.Test.YtkghgjehjchajaaWInv
import Derived.Laws.IdiomStrings
namespace Go.Proofs.YtkghgjehjchajaaW.PrintGrow
open Go Go.RowKit Go.Proofs.YtkghgjehjchajaaW.PrintWords Go.Proofs.YtkghgjehjchajaaW.PrintHand Go.Proofs.YtkghgjehjchajaaW.PrintHx
set_option linter.unusedVariables false
def needs (o : Oper) (j : Nat) : Bool := o.after.any fun e => Region.binds .any e && e.on == j
def downB (l : List Oper) : Bool := (List.range l.length).all fun i => match l[i]? with
  | some o => o.after.all fun e => decide (e.on < i)
  | none => true
def dstsB (l : List Oper) (n : Nat) : Bool := decide (l.filterMap (·.dst)).Nodup && (l.filterMap (·.dst)).all fun t => decide (t < n)
/-- Slot t is as the region found it when operation i comes up. -/
def quietB (l : List Oper) (i : Nat) (t : Tmp) : Bool := (List.range l.length).all fun k => match l[k]? with
  | some o => !(o.dst == some t) || k == i || needs o i
  | none => true
def fills (a : Act) (vs : Nat → Value) : Nat → List Oper → Act
  | _, [] => a
  | i, o :: r => fills (a.put o.dst (vs i)) vs (i + 1) r
theorem put_size (a : Act) (d : Option Tmp) (v : Value) : (a.put d v).tmps.size = a.tmps.size := by cases d <;> simp [Act.put]
theorem put_defers (a : Act) (d : Option Tmp) (v : Value) : (a.put d v).defers = a.defers := by cases d <;> rfl
theorem put_ne {a : Act} {d : Option Tmp} {v : Value} {t : Tmp} (h : d ≠ some t) : (a.put d v).tmps[t]? = a.tmps[t]? := by
  cases d with
  | none => rfl
  | some s =>
    have hs : s ≠ t := fun e => h (by rw [e])
    simp [Act.put, Array.getElem?_setIfInBounds_ne hs]
theorem put_on {a : Act} {v : Value} {t : Tmp} (h : t < a.tmps.size) : (a.put (some t) v).tmps[t]? = some v := by simp [Act.put, h]
theorem fills_size (vs : Nat → Value) : ∀ (l : List Oper) (i : Nat) (a : Act), (fills a vs i l).tmps.size = a.tmps.size
  | [], _, _ => rfl
  | o :: r, i, a => by rw [fills, fills_size vs r, put_size]
theorem fills_defers (vs : Nat → Value) : ∀ (l : List Oper) (i : Nat) (a : Act), (fills a vs i l).defers = a.defers
  | [], _, _ => rfl
  | o :: r, i, a => by rw [fills, fills_defers vs r, put_defers]
theorem fills_off (vs : Nat → Value) {t : Tmp} : ∀ (l : List Oper) (i : Nat) (a : Act), (∀ o ∈ l, o.dst ≠ some t) → (fills a vs i l).tmps[t]? = a.tmps[t]?
  | [], _, _, _ => rfl
  | o :: r, i, a, h => by rw [fills, fills_off vs r _ _ (fun x hx => h x (List.mem_cons_of_mem _ hx)), put_ne (h o List.mem_cons_self)]
theorem dst_mem {l : List Oper} {o : Oper} {t : Tmp} (h : o ∈ l) (ht : o.dst = some t) : t ∈ l.filterMap (·.dst) := List.mem_filterMap.2 ⟨o, h, ht⟩
theorem nodup_tail {o : Oper} {r : List Oper} (h : ((o :: r).filterMap (·.dst)).Nodup) : (r.filterMap (·.dst)).Nodup ∧ ∀ t, o.dst = some t → t ∉ r.filterMap (·.dst) := by
  rw [List.filterMap_cons] at h
  cases hd : o.dst with
  | none =>
    rw [hd] at h
    exact ⟨h, fun t ht => by cases ht⟩
  | some s =>
    rw [hd] at h
    rw [List.nodup_cons] at h
    exact ⟨h.2, fun t ht => by cases ht; exact h.1⟩
theorem dst_one : ∀ {l : List Oper}, (l.filterMap (·.dst)).Nodup → ∀ {i j : Nat} {oi oj : Oper} {t : Tmp}, l[i]? = some oi → l[j]? = some oj → oi.dst = some t → oj.dst = some t → i = j
  | [], _, i, _, _, _, _, h, _, _, _ => by simp at h
  | o :: r, hn, i, j, oi, oj, t, hi, hj, h1, h2 => by
    obtain ⟨hr, hx⟩ := nodup_tail hn
    cases i with
    | zero =>
      cases j with
      | zero => rfl
      | succ j =>
        have e : o = oi := by simpa using hi
        subst e
        exact absurd (dst_mem (List.mem_of_getElem? (by simpa using hj)) h2) (hx t h1)
    | succ i =>
      cases j with
      | zero =>
        have e : o = oj := by simpa using hj
        subst e
        exact absurd (dst_mem (List.mem_of_getElem? (by simpa using hi)) h1) (hx t h2)
      | succ j => exact congrArg (· + 1) (dst_one hr (by simpa using hi) (by simpa using hj) h1 h2)
theorem fills_on (vs : Nat → Value) {t : Tmp} {o : Oper} (ht : o.dst = some t) : ∀ (l : List Oper) (i k : Nat) (a : Act), (l.filterMap (·.dst)).Nodup → l[k]? = some o → t < a.tmps.size → (fills a vs i l).tmps[t]? = some (vs (i + k))
  | [], _, _, _, _, h, _ => by simp at h
  | x :: r, i, 0, a, hn, h, hs => by
    have e : x = o := by simpa using h
    subst e
    obtain ⟨hr, hx⟩ := nodup_tail hn
    rw [fills, fills_off vs r _ _ (fun y hy e => hx t ht (dst_mem hy e)), ht, put_on hs]
    rfl
  | x :: r, i, k + 1, a, hn, h, hs => by
    rw [fills, fills_on vs ht r (i + 1) k _ (nodup_tail hn).1 (by simpa using h) (by rw [put_size]; exact hs)]
    congr 2
    omega
section
variable {P : Program} {l : List Oper} {a0 : Act} {w0 : World} {Post : Nat → Value → World → Prop} {Q : Exit → Act → World → Prop}
structure Inv (l : List Oper) (a0 : Act) (w0 : World) (Post : Nat → Value → World → Prop) (b : Array Bool) (a : Act) (w : World) : Prop where
  grown : Below w0.heap.size w0 w
  size : a.tmps.size = a0.tmps.size
  defers : a.defers = a0.defers
  old : ∀ t, (∀ i o, l[i]? = some o → o.dst = some t → b.getD i false = false) → a.tmps[t]? = a0.tmps[t]?
  done : ∀ i o, l[i]? = some o → b.getD i false = true → ∃ v, (∀ t, o.dst = some t → a.tmps[t]? = some v) ∧ Post i v w
  shut : ∀ i o, l[i]? = some o → b.getD i false = true → ∀ j, needs o j = true → b.getD j false = true
structure At (l : List Oper) (a0 : Act) (w0 : World) (Post : Nat → Value → World → Prop) (i : Nat) (o : Oper) (a : Act) (w : World) : Prop where
  grown : Below w0.heap.size w0 w
  dep : ∀ j oj t, l[j]? = some oj → needs o j = true → oj.dst = some t → ∃ v, a.tmps[t]? = some v ∧ Post j v w
  old : ∀ t, quietB l i t = true → a.tmps[t]? = a0.tmps[t]?
/-- The step of operation i. -/
def StepG (P : Program) (l : List Oper) (a0 : Act) (w0 : World) (Post : Nat → Value → World → Prop) (Q : Exit → Act → World → Prop) (i : Nat) : Prop :=
  ∀ o, l[i]? = some o → ∀ a w, At l a0 w0 Post i o a w → ∀ K : Act → World → Prop, (∀ v w', Below w.heap.size w w' → Post i v w' → K (a.put o.dst v) w') →
    if Region.wanted o (yielded l.toArray a.tmps) = true then Oper.wp P o a w K Q else K (a.put o.dst undef) w
theorem getD_both {b : Array Bool} {i : Nat} (h : b.getD i true = false) : b.getD i false = false := by
  simp only [Array.getD_eq_getD_getElem?] at h ⊢
  cases hb : b[i]? with
  | none => rfl
  | some x => rw [hb] at h; simpa using h
theorem set_same {b : Array Bool} {i : Nat} (h : i < b.size) (d : Bool) : (b.setIfInBounds i true).getD i d = true := by
  simp [Array.getD_eq_getD_getElem?, h]
theorem set_ne {b : Array Bool} {i j : Nat} (h : i ≠ j) (d : Bool) : (b.setIfInBounds i true).getD j d = b.getD j d := by
  simp [Array.getD_eq_getD_getElem?, Array.getElem?_setIfInBounds_ne h]
theorem ready_mem {b : Array Bool} {i : Nat} (h : i ∈ Region.ready .any l.toArray b) : ∃ o, l[i]? = some o ∧ b.getD i true = false ∧ ∀ j, needs o j = true → b.getD j false = true := by
  unfold Region.ready at h
  rw [List.mem_filter, List.mem_range] at h
  obtain ⟨hl, h2⟩ := h
  have hl' : i < l.length := by simpa using hl
  rw [Bool.and_eq_true] at h2
  have e : l.toArray[i]? = some l[i] := by simp [hl']
  rw [e] at h2
  refine ⟨l[i], List.getElem?_eq_getElem hl', by simpa using h2.1, fun j hj => ?_⟩
  have h3 := h2.2
  simp only [Option.map_some, Option.getD_some] at h3
  unfold needs at hj
  rw [Array.any_eq_true'] at hj
  obtain ⟨e, he, h4⟩ := hj
  rw [Bool.and_eq_true, beq_iff_eq] at h4
  rw [Array.all_eq_true'] at h3
  have h5 := h3 e he
  rw [h4.1, h4.2] at h5
  simpa using h5
theorem mem_ready {b : Array Bool} {i : Nat} {o : Oper} (ho : l[i]? = some o) (hb : b.getD i true = false) (h : ∀ j, needs o j = true → b.getD j false = true) : i ∈ Region.ready .any l.toArray b := by
  unfold Region.ready
  rw [List.mem_filter, List.mem_range]
  have hl := (List.getElem?_eq_some_iff.1 ho).1
  refine ⟨by simpa using hl, ?_⟩
  have e : l.toArray[i]? = some o := by simpa using ho
  rw [e, hb]
  simp only [Bool.not_false, Bool.true_and, Option.map_some, Option.getD_some]
  rw [Array.all_eq_true']
  intro e he
  cases hB : Region.binds .any e with
  | false => rfl
  | true =>
    have := h e.on (by unfold needs; rw [Array.any_eq_true']; exact ⟨e, he, by rw [hB]; simp⟩)
    simpa using this
theorem down_lt (hd : downB l = true) {i j : Nat} {o : Oper} (ho : l[i]? = some o) (h : needs o j = true) : j < i := by
  have h1 := List.all_eq_true.1 hd i (List.mem_range.2 (List.getElem?_eq_some_iff.1 ho).1)
  rw [ho] at h1
  simp only [] at h1
  rw [Array.all_eq_true'] at h1
  unfold needs at h
  rw [Array.any_eq_true'] at h
  obtain ⟨e, he, h4⟩ := h
  rw [Bool.and_eq_true, beq_iff_eq] at h4
  have := h1 e he
  rw [decide_eq_true_eq, h4.2] at this
  exact this
theorem filter_less (b : Array Bool) (i : Nat) (hb : b.getD i false = false) (hi : i < b.size) : ∀ (L : List Nat), L.Nodup → i ∈ L → (L.filter fun j => !(b.setIfInBounds i true).getD j false).length + 1 = (L.filter fun j => !b.getD j false).length
  | [], _, h => by cases h
  | x :: r, hn, h => by
    rw [List.nodup_cons] at hn
    by_cases hx : x = i
    · subst hx
      have e : (r.filter fun j => !(b.setIfInBounds x true).getD j false) = r.filter fun j => !b.getD j false := by
        refine List.filter_congr (fun j hj => ?_)
        rw [set_ne (fun e => hn.1 (by rw [e]; exact hj))]
      rw [List.filter_cons, List.filter_cons, set_same hi, hb, e]
      simp
    · have hm : i ∈ r := by
        rcases List.mem_cons.1 h with h | h
        · exact absurd h.symm hx
        · exact h
      have ih := filter_less b i hb hi r hn.2 hm
      rw [List.filter_cons, List.filter_cons, set_ne (Ne.symm hx)]
      cases hbx : b.getD x false
      · simp only [Bool.not_false, if_true, List.length_cons]
        omega
      · simpa using ih
theorem act_ext {a b : Act} (h1 : a.tmps = b.tmps) (h2 : a.defers = b.defers) : a = b := by
  cases a; cases b; simp_all
theorem choose_all {α : Type} {p : Nat → α → Prop} (d : α) (n : Nat) (h : ∀ i, i < n → ∃ x, p i x) : ∃ f : Nat → α, ∀ i, i < n → p i (f i) := by
  refine ⟨fun i => if hi : i < n then Classical.choose (h i hi) else d, fun i hi => ?_⟩
  simp only [dif_pos hi]
  exact Classical.choose_spec (h i hi)
theorem inv_done (hn : dstsB l a0.tmps.size = true) {b : Array Bool} {a : Act} {w : World} (hall : ∀ i, i < l.length → b.getD i false = true) (I : Inv l a0 w0 Post b a w)
    (hend : ∀ (vs : Nat → Value) w, Below w0.heap.size w0 w → (∀ i, i < l.length → Post i (vs i) w) → Q .normal (fills a0 vs 0 l) w) : Q .normal a w := by
  have hnd : (l.filterMap (·.dst)).Nodup := by
    unfold dstsB at hn
    rw [Bool.and_eq_true] at hn
    exact of_decide_eq_true hn.1
  have hlt : ∀ {i : Nat} {o : Oper} {t : Tmp}, l[i]? = some o → o.dst = some t → t < a0.tmps.size := by
    intro i o t hi ht
    unfold dstsB at hn
    rw [Bool.and_eq_true] at hn
    exact of_decide_eq_true (List.all_eq_true.1 hn.2 t (dst_mem (List.mem_of_getElem? hi) ht))
  have hex : ∀ i, i < l.length → ∃ v, (∀ o t, l[i]? = some o → o.dst = some t → a.tmps[t]? = some v) ∧ Post i v w := by
    intro i hi
    obtain ⟨v, h1, h2⟩ := I.done i l[i] (List.getElem?_eq_getElem hi) (hall i hi)
    refine ⟨v, fun o t ho ht => h1 t ?_, h2⟩
    rw [List.getElem?_eq_getElem hi] at ho
    rw [Option.some.inj ho]
    exact ht
  obtain ⟨vs, hvs⟩ := choose_all undef l.length hex
  have e : a = fills a0 vs 0 l := by
    refine act_ext (Array.ext_getElem? fun t => ?_) (by rw [I.defers, fills_defers])
    by_cases ht : ∃ (i : Nat) (o : Oper), l[i]? = some o ∧ o.dst = some t
    · obtain ⟨i, o, ho, hto⟩ := ht
      rw [fills_on vs hto l 0 i a0 hnd ho (hlt ho hto), (hvs i (List.getElem?_eq_some_iff.1 ho).1).1 o t ho hto, Nat.zero_add]
    · rw [fills_off vs l 0 a0 (fun o ho hto => by obtain ⟨i, hi⟩ := List.mem_iff_getElem?.1 ho; exact ht ⟨i, o, hi, hto⟩)]
      exact I.old t (fun i o ho hto => absurd ⟨i, o, ho, hto⟩ ht)
  rw [e]
  exact hend vs w I.grown (fun i hi => (hvs i hi).2)
theorem inv_at (hst : ∀ i v w w', Below w.heap.size w w' → Post i v w → Post i v w') {b : Array Bool} {a : Act} {w : World} {i : Nat} {o : Oper} (I : Inv l a0 w0 Post b a w) (ho : l[i]? = some o) (hbf : b.getD i false = false) (h2 : ∀ j, needs o j = true → b.getD j false = true) : At l a0 w0 Post i o a w := by
  refine ⟨I.grown, fun j oj t hj hn hto => ?_, fun t hq => I.old t (fun k ok hk hto => ?_)⟩
  · obtain ⟨v, h3, h4⟩ := I.done j oj hj (h2 j hn)
    exact ⟨v, h3 t hto, h4⟩
  · have h3 := List.all_eq_true.1 hq k (List.mem_range.2 (List.getElem?_eq_some_iff.1 hk).1)
    rw [hk] at h3
    simp only [Bool.or_eq_true, Bool.not_eq_true', beq_eq_false_iff_ne, beq_iff_eq] at h3
    rcases h3 with (h3 | h3) | h3
    · exact absurd hto h3
    · rw [h3]; exact hbf
    · cases hbk : b.getD k false with
      | false => rfl
      | true =>
        have := I.shut k ok hk hbk i h3
        rw [hbf] at this
        cases this
theorem inv_next (hn : dstsB l a0.tmps.size = true) (hst : ∀ i v w w', Below w.heap.size w w' → Post i v w → Post i v w') {b : Array Bool} {a : Act} {w : World} {i : Nat} {o : Oper} (hb : b.size = l.length) (I : Inv l a0 w0 Post b a w) (ho : l[i]? = some o) (hbf : b.getD i false = false) (h2 : ∀ j, needs o j = true → b.getD j false = true)
    {v : Value} {w' : World} (hg : Below w.heap.size w w') (hp : Post i v w') : Inv l a0 w0 Post (b.setIfInBounds i true) (a.put o.dst v) w' := by
  have hnd : (l.filterMap (·.dst)).Nodup := by
    unfold dstsB at hn
    rw [Bool.and_eq_true] at hn
    exact of_decide_eq_true hn.1
  have hlt : ∀ {i : Nat} {o : Oper} {t : Tmp}, l[i]? = some o → o.dst = some t → t < a0.tmps.size := by
    intro i o t hi ht
    unfold dstsB at hn
    rw [Bool.and_eq_true] at hn
    exact of_decide_eq_true (List.all_eq_true.1 hn.2 t (dst_mem (List.mem_of_getElem? hi) ht))
  have hil := (List.getElem?_eq_some_iff.1 ho).1
  refine ⟨below_then I.grown I.grown.size hg, by rw [put_size]; exact I.size, by rw [put_defers]; exact I.defers, fun t ht => ?_, fun j oj hj hbj => ?_, fun j oj hj hbj m hm => ?_⟩
  · have hne : o.dst ≠ some t := fun e => by
      have := ht i o ho e
      rw [set_same (by omega)] at this
      cases this
    rw [put_ne hne]
    refine I.old t (fun k ok hk hto => ?_)
    have h3 := ht k ok hk hto
    rwa [set_ne (fun e => by subst e; rw [ho] at hk; cases hk; exact hne hto)] at h3
  · by_cases hij : i = j
    · subst hij
      rw [ho] at hj
      cases hj
      exact ⟨v, fun t hto => by rw [hto]; exact put_on (by rw [I.size]; exact hlt ho hto), hp⟩
    · rw [set_ne hij] at hbj
      obtain ⟨u, h3, h4⟩ := I.done j oj hj hbj
      refine ⟨u, fun t hto => ?_, hst j u w w' hg h4⟩
      rw [put_ne (fun e => hij (dst_one hnd ho hj e hto))]
      exact h3 t hto
  · by_cases hij : i = j
    · subst hij
      rw [ho] at hj
      cases hj
      have h3 := h2 m hm
      rw [set_ne (fun e => by subst e; rw [hbf] at h3; cases h3)]
      exact h3
    · rw [set_ne hij] at hbj
      have h3 := I.shut j oj hj hbj m hm
      rw [set_ne (fun e => by subst e; rw [hbf] at h3; cases h3)]
      exact h3
theorem grow_any (hd : downB l = true) (hn : dstsB l a0.tmps.size = true) (hst : ∀ i v w w', Below w.heap.size w w' → Post i v w → Post i v w') (hs : ∀ i ∈ List.range l.length, StepG P l a0 w0 Post Q i)
    (hend : ∀ (vs : Nat → Value) w, Below w0.heap.size w0 w → (∀ i, i < l.length → Post i (vs i) w) → Q .normal (fills a0 vs 0 l) w) :
    ∀ (fuel : Nat) (b : Array Bool) (a : Act) (w : World), b.size = l.length → ((List.range l.length).filter fun i => !b.getD i false).length = fuel → Inv l a0 w0 Post b a w → wpAny P .any l.toArray Q fuel b a w := by
  have hnd : (l.filterMap (·.dst)).Nodup := by
    unfold dstsB at hn
    rw [Bool.and_eq_true] at hn
    exact of_decide_eq_true hn.1
  have hlt : ∀ {i : Nat} {o : Oper} {t : Tmp}, l[i]? = some o → o.dst = some t → t < a0.tmps.size := by
    intro i o t hi ht
    unfold dstsB at hn
    rw [Bool.and_eq_true] at hn
    exact of_decide_eq_true (List.all_eq_true.1 hn.2 t (dst_mem (List.mem_of_getElem? hi) ht))
  intro fuel
  induction fuel with
  | zero =>
    intro b a w hb hc I
    have hall : ∀ i, i < l.length → b.getD i false = true := by
      intro i hi
      cases h : b.getD i false with
      | true => rfl
      | false =>
        have : i ∈ (List.range l.length).filter fun i => !b.getD i false := List.mem_filter.2 ⟨List.mem_range.2 hi, by simp [h]⟩
        rw [List.eq_nil_of_length_eq_zero hc] at this
        cases this
    refine ⟨List.eq_nil_iff_forall_not_mem.2 (fun i hi => ?_), ?_⟩
    · obtain ⟨o, ho, h1, _⟩ := ready_mem hi
      have h2 := hall i (List.getElem?_eq_some_iff.1 ho).1
      rw [getD_both h1] at h2
      cases h2
    · have hex : ∀ i, i < l.length → ∃ v, (∀ o t, l[i]? = some o → o.dst = some t → a.tmps[t]? = some v) ∧ Post i v w := by
        intro i hi
        obtain ⟨v, h1, h2⟩ := I.done i l[i] (List.getElem?_eq_getElem hi) (hall i hi)
        refine ⟨v, fun o t ho ht => h1 t ?_, h2⟩
        rw [List.getElem?_eq_getElem hi] at ho
        rw [Option.some.inj ho]
        exact ht
      obtain ⟨vs, hvs⟩ := choose_all undef l.length hex
      have e : a = fills a0 vs 0 l := by
        refine act_ext (Array.ext_getElem? fun t => ?_) (by rw [I.defers, fills_defers])
        by_cases ht : ∃ (i : Nat) (o : Oper), l[i]? = some o ∧ o.dst = some t
        · obtain ⟨i, o, ho, hto⟩ := ht
          rw [fills_on vs hto l 0 i a0 hnd ho (hlt ho hto), (hvs i (List.getElem?_eq_some_iff.1 ho).1).1 o t ho hto, Nat.zero_add]
        · rw [fills_off vs l 0 a0 (fun o ho hto => by obtain ⟨i, hi⟩ := List.mem_iff_getElem?.1 ho; exact ht ⟨i, o, hi, hto⟩)]
          exact I.old t (fun i o ho hto => absurd ⟨i, o, ho, hto⟩ ht)
      rw [e]
      exact hend vs w I.grown (fun i hi => (hvs i hi).2)
  | succ fuel ih =>
    intro b a w hb hc I
    refine ⟨fun hr => ?_, fun i hi => ?_⟩
    · exfalso
      have hmin : ∀ k i, i ≤ k → i < l.length → b.getD i false = false → ∃ j, j < l.length ∧ b.getD j false = false ∧ ∀ m, m < j → b.getD m false = true := by
        intro k
        induction k with
        | zero =>
          intro i h1 h2 h3
          exact ⟨i, h2, h3, fun m hm => by omega⟩
        | succ k ihk =>
          intro i h1 h2 h3
          by_cases hlow : ∃ j, j < i ∧ b.getD j false = false
          · obtain ⟨j, h4, h5⟩ := hlow
            exact ihk j (by omega) (by omega) h5
          · refine ⟨i, h2, h3, fun m hm => ?_⟩
            cases h : b.getD m false with
            | true => rfl
            | false => exact absurd ⟨m, hm, h⟩ hlow
      have hex : ∃ i, i < l.length ∧ b.getD i false = false := by
        cases hf : (List.range l.length).filter (fun i => !b.getD i false) with
        | nil => rw [hf] at hc; simp at hc
        | cons x r =>
          have hx : x ∈ (List.range l.length).filter (fun i => !b.getD i false) := by rw [hf]; exact List.mem_cons_self
          rw [List.mem_filter, List.mem_range] at hx
          exact ⟨x, hx.1, by simpa using hx.2⟩
      obtain ⟨i0, h1, h2⟩ := hex
      obtain ⟨i, h3, h4, h5⟩ := hmin i0 i0 (Nat.le_refl _) h1 h2
      have ho := List.getElem?_eq_getElem h3
      have hb' : b.getD i true = false := by
        simp only [Array.getD_eq_getD_getElem?] at h4 ⊢
        have : b[i]? = some b[i] := Array.getElem?_eq_getElem (by omega)
        rw [this] at h4 ⊢
        simpa using h4
      have := mem_ready ho hb' (fun j hj => h5 j (down_lt hd ho hj))
      rw [hr] at this
      cases this
    · obtain ⟨o, ho, h1, h2⟩ := ready_mem hi
      have hil := (List.getElem?_eq_some_iff.1 ho).1
      have hbf := getD_both h1
      have hat : At l a0 w0 Post i o a w := by
        refine ⟨I.grown, fun j oj t hj hn hto => ?_, fun t hq => I.old t (fun k ok hk hto => ?_)⟩
        · obtain ⟨v, h3, h4⟩ := I.done j oj hj (h2 j hn)
          exact ⟨v, h3 t hto, h4⟩
        · have h3 := List.all_eq_true.1 hq k (List.mem_range.2 (List.getElem?_eq_some_iff.1 hk).1)
          rw [hk] at h3
          simp only [Bool.or_eq_true, Bool.not_eq_true', beq_eq_false_iff_ne, beq_iff_eq] at h3
          rcases h3 with (h3 | h3) | h3
          · exact absurd hto h3
          · rw [h3]; exact hbf
          · cases hbk : b.getD k false with
            | false => rfl
            | true =>
              have := I.shut k ok hk hbk i h3
              rw [hbf] at this
              cases this
      have hK : ∀ v w', Below w.heap.size w w' → Post i v w' → wpAny P .any l.toArray Q fuel (b.setIfInBounds i true) (a.put o.dst v) w' := by
        intro v w' hg hp
        refine ih _ _ _ (by simpa using hb) ?_ ?_
        · have := filter_less b i hbf (by omega) (List.range l.length) List.nodup_range (List.mem_range.2 hil)
          omega
        · refine ⟨below_then I.grown I.grown.size hg, by rw [put_size]; exact I.size, by rw [put_defers]; exact I.defers, fun t ht => ?_, fun j oj hj hbj => ?_, fun j oj hj hbj m hm => ?_⟩
          · have hne : o.dst ≠ some t := fun e => by
              have := ht i o ho e
              rw [set_same (by omega)] at this
              cases this
            rw [put_ne hne]
            refine I.old t (fun k ok hk hto => ?_)
            have h3 := ht k ok hk hto
            rwa [set_ne (fun e => by subst e; rw [ho] at hk; cases hk; exact hne hto)] at h3
          · by_cases hij : i = j
            · subst hij
              rw [ho] at hj
              cases hj
              exact ⟨v, fun t hto => by rw [hto]; exact put_on (by rw [I.size]; exact hlt ho hto), hp⟩
            · rw [set_ne hij] at hbj
              obtain ⟨u, h3, h4⟩ := I.done j oj hj hbj
              refine ⟨u, fun t hto => ?_, hst j u w w' hg h4⟩
              rw [put_ne (fun e => hij (dst_one hnd ho hj e hto))]
              exact h3 t hto
          · by_cases hij : i = j
            · subst hij
              rw [ho] at hj
              cases hj
              have h3 := h2 m hm
              rw [set_ne (fun e => by subst e; rw [hbf] at h3; cases h3)]
              exact h3
            · rw [set_ne hij] at hbj
              have h3 := I.shut j oj hj hbj m hm
              rw [set_ne (fun e => by subst e; rw [hbf] at h3; cases h3)]
              exact h3
      have h3 := hs i (List.mem_range.2 hil) o ho a w hat _ hK
      unfold wpOp
      have e : l.toArray[i]? = some o := by simpa using ho
      rw [e]
      simp only []
      split
      · rename_i hw
        rw [if_pos hw] at h3
        exact .inl h3
      · rename_i hw
        rw [if_neg hw] at h3
        exact h3
/-- The step of the operation o, which has number i. -/
def StepO (P : Program) (l : List Oper) (a0 : Act) (w0 : World) (Post : Nat → Value → World → Prop) (Q : Exit → Act → World → Prop) (i : Nat) (o : Oper) : Prop :=
  ∀ a w, At l a0 w0 Post i o a w → ∀ K : Act → World → Prop, (∀ v w', Below w.heap.size w w' → Post i v w' → K (a.put o.dst v) w') →
    if Region.wanted o (yielded l.toArray a.tmps) = true then Oper.wp P o a w K Q else K (a.put o.dst undef) w
def Steps (P : Program) (l : List Oper) (a0 : Act) (w0 : World) (Post : Nat → Value → World → Prop) (Q : Exit → Act → World → Prop) : List Oper → Nat → Prop
  | [], _ => True
  | o :: r, i => StepO P l a0 w0 Post Q i o ∧ Steps P l a0 w0 Post Q r (i + 1)
theorem steps_cons {o : Oper} {r : List Oper} {i : Nat} (h : StepO P l a0 w0 Post Q i o) (hs : Steps P l a0 w0 Post Q r (i + 1)) : Steps P l a0 w0 Post Q (o :: r) i := ⟨h, hs⟩
theorem steps_nil {i : Nat} : Steps P l a0 w0 Post Q [] i := trivial
theorem steps_get : ∀ {r : List Oper} {i k : Nat} {o : Oper}, Steps P l a0 w0 Post Q r i → r[k]? = some o → StepO P l a0 w0 Post Q (i + k) o
  | [], _, _, _, _, h => by simp at h
  | x :: r, i, 0, o, hs, h => by
    have e : x = o := by simpa using h
    subst e
    exact hs.1
  | x :: r, i, k + 1, o, hs, h => by
    have := steps_get (i := i + 1) (k := k) hs.2 (by simpa using h)
    rwa [show i + 1 + k = i + (k + 1) by omega] at this
/-- What follows, the destinations filled one by one. -/
def Ends (Post : Nat → Value → World → Prop) (Q : Act → Prop) (w : World) : List Oper → Nat → Act → Prop
  | [], _, a => Q a
  | o :: r, i, a => ∀ v, Post i v w → Ends Post Q w r (i + 1) (a.put o.dst v)
theorem ends_nil {Q : Act → Prop} {w : World} {i : Nat} {a : Act} (h : Q a) : Ends Post Q w [] i a := h
theorem ends_cons {Q : Act → Prop} {w : World} {o : Oper} {r : List Oper} {i : Nat} {a : Act} (h : ∀ v, Post i v w → Ends Post Q w r (i + 1) (a.put o.dst v)) : Ends Post Q w (o :: r) i a := h
theorem ends_fills {Q : Act → Prop} {w : World} (vs : Nat → Value) : ∀ (r : List Oper) (i : Nat) (a : Act), Ends Post Q w r i a → (∀ k, k < r.length → Post (i + k) (vs (i + k)) w) → Q (fills a vs i r)
  | [], _, _, h, _ => h
  | o :: r, i, a, h, hp => by
    rw [fills]
    refine ends_fills vs r (i + 1) _ (h (vs i) (by have := hp 0 (by simp); exact this)) (fun k hk => ?_)
    have := hp (k + 1) (by simp; omega)
    rwa [show i + (k + 1) = i + 1 + k by omega] at this
/-! What a value is, whatever is made behind it. -/
def Stable (p : Value → World → Prop) : Prop := ∀ v w w', Below w.heap.size w w' → p v w → p v w'
def AllSt : List (Value → World → Prop) → Prop
  | [] => True
  | p :: r => Stable p ∧ AllSt r
theorem allst_nil : AllSt [] := trivial
theorem allst_cons {p : Value → World → Prop} {r : List (Value → World → Prop)} (h : Stable p) (hr : AllSt r) : AllSt (p :: r) := ⟨h, hr⟩
def Posts (L : List (Value → World → Prop)) (i : Nat) (v : Value) (w : World) : Prop := L.getD i (fun _ _ => True) v w
theorem posts_stable : ∀ {L : List (Value → World → Prop)}, AllSt L → ∀ i v w w', Below w.heap.size w w' → Posts L i v w → Posts L i v w'
  | [], _, i, v, w, w', _, _ => by simp [Posts]
  | p :: r, h, 0, v, w, w', hb, hp => h.1 v w w' hb hp
  | p :: r, h, i + 1, v, w, w', hb, hp => posts_stable h.2 i v w w' hb hp
def Is (V : Value) : Value → World → Prop := fun v _ => v = V
theorem st_is {V : Value} : Stable (Is V) := fun _ _ _ _ h => h
def Any : Value → World → Prop := fun _ _ => True
theorem st_any : Stable Any := fun _ _ _ _ _ => trivial
def Row {α : Type} (d : Kd α) (xs : List α) : Value → World → Prop := fun v w => ∃ A c, v = .slice A xs.length c ∧ xs.length ≤ c ∧ Kd.C d w A xs.length xs
theorem st_row {α : Type} {d : Kd α} {xs : List α} : Stable (Row d xs) := by
  rintro v w w' hb ⟨A, c, h1, h2, h3⟩
  exact ⟨A, c, h1, h2, Kd.C_below h3 hb⟩
def Own {α : Type} (d : Kd α) (e B : Nat) (xs : List α) : Value → World → Prop := fun v w => d.R e w B (fun _ => True) v xs
theorem st_own {α : Type} {d : Kd α} {e B : Nat} {xs : List α} : Stable (Own d e B xs) := fun v w w' hb h => Kd.R_below h hb
theorem own_row {α : Type} {d : Kd α} {e B : Nat} {ok : Nat → Prop} {xs : List α} {v : Value} {w : World} (h : d.R e w B ok v xs) : Row d xs v w := Kd.R_reads h
/-- Values that are rows, as the cells of a row of rows. -/
def Rows {α : Type} (d : Kd α) (w : World) : List Value → List (List α) → Prop
  | [], [] => True
  | v :: vs, x :: xs => Row d x v w ∧ Rows d w vs xs
  | _, _ => False
theorem rows_nil {α : Type} {d : Kd α} {w : World} : Rows d w [] [] := trivial
theorem rows_cons {α : Type} {d : Kd α} {w : World} {v : Value} {vs : List Value} {x : List α} {xs : List (List α)} (h : Row d x v w) (hs : Rows d w vs xs) : Rows d w (v :: vs) (x :: xs) := ⟨h, hs⟩
theorem rows_reps {α : Type} {d : Kd α} {e : Nat} {w : World} : ∀ {vs : List Value} {xs : List (List α)}, Rows d w vs xs → Reps ((Kd.slice e d).K w) 1 xs vs
  | [], [], _ => Reps.none _ _
  | [], _ :: _, h => h.elim
  | _ :: _, [], h => h.elim
  | v :: vs, x :: xs, h => by
    have ih := rows_reps (e := e) h.2
    obtain ⟨A, c, h1, h2, h3⟩ := h.1
    refine ⟨by simp [ih.1], fun j p hj => ?_⟩
    cases j with
    | zero =>
      have e : x = p := by simpa using hj
      subst e
      exact ⟨A, c, by simp [h1], h2, h3⟩
    | succ j =>
      have := ih.2 j p (by simpa using hj)
      simpa [Nat.add_mul] using this
/-- A literal's row, read. -/
theorem lit_reads {α : Type} {d : Kd α} {e : Nat} {w : World} {inner : List Value} {xs : List α} (hrep : Reps (d.K w) d.sz xs inner) (hm : xs.length ≤ 9223372036854775807) : Row d xs (.slice (some ⟨w.heap.size, 0, none⟩) xs.length xs.length) (w.alloc (.cells inner.toArray e)) := by
  refine ⟨_, _, rfl, Nat.le_refl _, rfl, hm, fun _ => ⟨_, rfl, fun j p hj => ⟨(inner.drop (j * d.sz)).take d.sz, ?_, ?_, fun i u hi => ?_⟩⟩⟩
  · have hjl := (List.getElem?_eq_some_iff.1 hj).1
    have h1 := hrep.1
    have h2 : j * d.sz + d.sz ≤ xs.length * d.sz := by rw [← Nat.succ_mul]; exact Nat.mul_le_mul_right _ hjl
    rw [List.length_take, List.length_drop]
    omega
  · exact d.K_below (below_alloc (Below.refl _ _) _) (hrep.2 j p hj)
  · have hb := blk_new w (.cells inner.toArray e (0, 0))
    rw [add_plain, blk_cell hb]
    rw [List.getElem?_take] at hi
    split at hi
    · rw [List.getElem?_drop] at hi
      simpa using hi
    · cases hi
theorem bytes_reads {e : Nat} (s : ByteArray) (hs : s.size ≤ 9223372036854775807) (cap : Nat) (hcap : s.size ≤ cap) (n : Nat) (fr : Nat × Nat) {w' : World} (h : w'.heap[n]? = some (.cells (bytesRow s cap) e fr)) : Row (Kd.int .u8) (bytesOf s) (.slice (some ⟨n, 0, none⟩) s.size cap) w' := by
  have hl := bytesOf_length s
  refine ⟨_, _, by rw [hl], by rw [hl]; exact hcap, rfl, by rw [hl]; exact hs, fun _ => ⟨_, rfl, fun j p hj => ⟨[.int .u8 p], rfl, rfl, fun i u hi => ?_⟩⟩⟩
  have hi0 : i = 0 := by
    have := (List.getElem?_eq_some_iff.1 hi).1
    simpa using this
  subst hi0
  have hu : u = .int .u8 p := by simpa using hi.symm
  subst hu
  have hjl : j < s.size := by
    have := (List.getElem?_eq_some_iff.1 hj).1
    omega
  have hd : j < s.data.size := hjl
  have hp : p = ((s.data[j]).toNat : Int) := by
    unfold bytesOf at hj
    rw [List.getElem?_map, Array.getElem?_toList, Array.getElem?_eq_getElem hd] at hj
    simpa using hj.symm
  have ha : (⟨n, 0, none⟩ : Addr).add (j * (Kd.int .u8).sz + 0) = ⟨n, j, none⟩ := by
    show (⟨n, 0, none⟩ : Addr).add (j * 1 + 0) = _
    rw [add_plain]
    simp
  rw [ha]
  simp only [World.cell?, h, bytesRow]
  rw [Array.getElem?_append_left (by simpa using hd), Array.getElem?_map, Array.getElem?_eq_getElem hd, hp]
  rfl
/-- THE REGION. L: what each operation's value is, and stays, whatever is made behind it. -/
theorem wp_region_grow {id : Nat} (L : List (Value → World → Prop)) (hm : P.follows .mixedOrders = true) (hd : downB l = true) (hn : dstsB l a0.tmps.size = true) (hst : AllSt L) (hs : Steps P l a0 w0 (Posts L) Q l 0)
    (hend : ∀ w, Below w0.heap.size w0 w → Ends (Posts L) (fun a => Q .normal a w) w l 0 a0) : (Code.region id l.toArray true).wp P Q a0 w0 := by
  refine wp_region_any hm ?_
  have hz2 : ∀ i, (Array.replicate l.toArray.size false).getD i false = false := by
    intro i
    by_cases hi : i < l.toArray.size
    · rw [Array.getD_eq_getD_getElem?, Array.getElem?_replicate, if_pos hi]
      rfl
    · rw [Array.getD_eq_getD_getElem?, Array.getElem?_eq_none (by simpa using hi)]
      rfl
  refine grow_any hd hn (posts_stable hst) (fun i _ o ho => by have := steps_get hs ho; rwa [Nat.zero_add] at this) (fun vs w hg hp => ends_fills (Q := fun a => Q .normal a w) vs l 0 a0 (hend w hg) (fun k hk => by rw [Nat.zero_add]; exact hp k hk)) _ _ a0 _ (by simp) ?_ ⟨(Below.refl _ _).drew, rfl, rfl, fun _ _ => rfl, fun i o _ h => ?_, fun i o _ h => ?_⟩
  · have e : (List.range l.length).filter (fun i => !(Array.replicate l.toArray.size false).getD i false) = List.range l.length := by
      refine List.filter_eq_self.2 (fun i _ => ?_)
      rw [hz2]
      rfl
    rw [e]
    simp
  · rw [hz2] at h
    cases h
  · rw [hz2] at h
    cases h
def mask (n k : Nat) : Array Bool := ((List.range n).map fun i => decide (i < k)).toArray
theorem mask_size (n k : Nat) : (mask n k).size = n := by simp [mask]
theorem mask_get (n k i : Nat) (hi : i < n) (d : Bool) : (mask n k).getD i d = decide (i < k) := by
  simp [mask, Array.getD_eq_getD_getElem?, hi]
theorem mask_out (n k i : Nat) (hi : ¬ i < n) : (mask n k).getD i false = false := by
  rw [Array.getD_eq_getD_getElem?, Array.getElem?_eq_none (by rw [mask_size]; omega)]
  rfl
theorem mask_set (n k : Nat) : (mask n k).setIfInBounds k true = mask n (k + 1) := by
  apply Array.ext
  · simp [mask]
  · intro i h1 h2
    rw [Array.size_setIfInBounds, mask_size] at h1
    have hs : i < (mask n k).size := by rw [mask_size]; exact h1
    rw [Array.getElem_setIfInBounds hs]
    simp only [mask]
    split
    · rename_i h
      simp [← h]
    · rename_i h
      simp
      omega
theorem grow_seq (hd : downB l = true) (hn : dstsB l a0.tmps.size = true) (hst : ∀ i v w w', Below w.heap.size w w' → Post i v w → Post i v w') (hs : ∀ i o, l[i]? = some o → StepO P l a0 w0 Post Q i o)
    (hend : ∀ (vs : Nat → Value) w, Below w0.heap.size w0 w → (∀ i, i < l.length → Post i (vs i) w) → Q .normal (fills a0 vs 0 l) w) :
    ∀ (r : List Oper) (k : Nat) (a : Act) (w : World), l.drop k = r → Inv l a0 w0 Post (mask l.length k) a w → wpList P l.toArray Q r a w
  | [], k, a, w, hr, I => by
    have hk : l.length ≤ k := by
      have := congrArg List.length hr
      rw [List.length_drop] at this
      simp at this
      omega
    exact inv_done hn (fun i hi => by rw [mask_get _ _ _ hi]; exact decide_eq_true (by omega)) I hend
  | o :: r, k, a, w, hr, I => by
    have hk : k < l.length := by
      have := congrArg List.length hr
      rw [List.length_drop] at this
      simp at this
      omega
    have ho : l[k]? = some o := by
      have h1 := List.drop_eq_getElem_cons hk
      rw [hr] at h1
      rw [List.getElem?_eq_getElem hk]
      injection h1 with h1 h2
      rw [h1]
    have hr2 : l.drop (k + 1) = r := by
      have h1 := List.drop_eq_getElem_cons hk
      rw [hr] at h1
      injection h1 with h1 h2
      exact h2.symm
    have hbf : (mask l.length k).getD k false = false := by rw [mask_get _ _ _ hk]; simp
    have h2 : ∀ j, needs o j = true → (mask l.length k).getD j false = true := fun j hj => by
      have := down_lt hd ho hj
      rw [mask_get _ _ _ (by omega)]
      exact decide_eq_true this
    have h3 := hs k o ho a w (inv_at hst I ho hbf h2) (wpList P l.toArray Q r) (fun v w' hg hp => grow_seq hd hn hst hs hend r (k + 1) _ _ hr2 (by have := inv_next hn hst (mask_size _ _) I ho hbf h2 hg hp; rwa [mask_set] at this))
    unfold wpList
    split
    · rename_i hw
      rw [if_pos hw] at h3
      exact .inl h3
    · rename_i hw
      rw [if_neg hw] at h3
      exact h3
/-- The same for a region in the text's order. -/
theorem wp_region_seq {id : Nat} (L : List (Value → World → Prop)) (hd : downB l = true) (hn : dstsB l a0.tmps.size = true) (hst : AllSt L) (hs : Steps P l a0 w0 (Posts L) Q l 0)
    (hend : ∀ w, Below w0.heap.size w0 w → Ends (Posts L) (fun a => Q .normal a w) w l 0 a0) : (Code.region id l.toArray false).wp P Q a0 w0 := by
  refine wp_region_lit ?_
  have hz : ∀ i, (mask l.length 0).getD i false = false := by
    intro i
    by_cases hi : i < l.length
    · rw [mask_get _ _ _ hi]; simp
    · exact mask_out _ _ _ hi
  refine grow_seq hd hn (posts_stable hst) (fun i o ho => by have := steps_get hs ho; rwa [Nat.zero_add] at this) (fun vs w hg hp => ends_fills (Q := fun a => Q .normal a w) vs l 0 a0 (hend w hg) (fun k hk => by rw [Nat.zero_add]; exact hp k hk)) l 0 a0 w0 rfl ⟨Below.refl _ _, rfl, rfl, fun _ _ => rfl, fun i o _ h => ?_, fun i o _ h => ?_⟩
  · rw [hz] at h
    cases h
  · rw [hz] at h
    cases h
/-- What operation i finds: the values of what it needs, the slots as the region found them. -/
def FoundD (Post : Nat → Value → World → Prop) (a : Act) (w : World) : List (Nat × Tmp) → Prop
  | [] => True
  | d :: ds => (∃ v, a.tmps[d.2]? = some v ∧ Post d.1 v w) ∧ FoundD Post a w ds
def FoundO (a0 a : Act) : List Tmp → Prop
  | [] => True
  | t :: os => a.tmps[t]? = a0.tmps[t]? ∧ FoundO a0 a os
def Found (Post : Nat → Value → World → Prop) (a0 a : Act) (w : World) (ds : List (Nat × Tmp)) (os : List Tmp) : Prop := FoundD Post a w ds ∧ FoundO a0 a os
def depsB (l : List Oper) (i : Nat) (o : Oper) (ds : List (Nat × Tmp)) (os : List Tmp) : Bool :=
  (ds.all fun d => needs o d.1 && match l[d.1]? with
    | some oj => oj.dst == some d.2
    | none => false) && os.all fun t => quietB l i t
theorem foundO_of {i : Nat} {o : Oper} {a : Act} {w : World} (h : At l a0 w0 Post i o a w) : ∀ {os : List Tmp}, (os.all fun t => quietB l i t) = true → FoundO a0 a os
  | [], _ => trivial
  | t :: os, hc => by
    rw [List.all_cons, Bool.and_eq_true] at hc
    exact ⟨h.old t hc.1, foundO_of h hc.2⟩
theorem foundD_of {i : Nat} {o : Oper} {a : Act} {w : World} (h : At l a0 w0 Post i o a w) : ∀ {ds : List (Nat × Tmp)}, (ds.all fun d => needs o d.1 && match l[d.1]? with
    | some oj => oj.dst == some d.2
    | none => false) = true → FoundD Post a w ds
  | [], _ => trivial
  | (j, t) :: ds, hc => by
    rw [List.all_cons, Bool.and_eq_true, Bool.and_eq_true] at hc
    refine ⟨?_, foundD_of h hc.2⟩
    have h2 := hc.1.2
    simp only [] at h2
    cases hj : l[j]? with
    | none => rw [hj] at h2; cases h2
    | some oj =>
      rw [hj] at h2
      simp only [beq_iff_eq] at h2
      exact h.dep j oj t hj hc.1.1 h2
theorem found_of {i : Nat} {o : Oper} {a : Act} {w : World} (h : At l a0 w0 Post i o a w) {ds : List (Nat × Tmp)} {os : List Tmp} (hc : depsB l i o ds os = true) : Found Post a0 a w ds os := by
  unfold depsB at hc
  rw [Bool.and_eq_true] at hc
  exact ⟨foundD_of h hc.1, foundO_of h hc.2⟩
theorem stepO_plain {i : Nat} {o : Oper} (hgd : o.guard = none) (ds : List (Nat × Tmp)) (os : List Tmp) (hc : depsB l i o ds os = true)
    (h : ∀ a w, Below w0.heap.size w0 w → Found Post a0 a w ds os → ∀ K : Act → World → Prop, (∀ v w', Below w.heap.size w w' → Post i v w' → K (a.put o.dst v) w') → Oper.wp P o a w K Q) : StepO P l a0 w0 Post Q i o := by
  intro a w hat K hK
  have hw : Region.wanted o (yielded l.toArray a.tmps) = true := by simp [Region.wanted, hgd]
  rw [if_pos hw]
  exact h a w hat.grown (found_of hat hc) K hK
/-- A value that comes out of a run; the world may have grown. -/
theorem stepO_run {i : Nat} {o : Oper} (hgd : o.guard = none) (ds : List (Nat × Tmp)) (os : List Tmp) (hc : depsB l i o ds os = true)
    (hr : ∀ a w, Below w0.heap.size w0 w → Found Post a0 a w ds os → ∃ v w', (execOp a.eval o).run P w = .ok (.value v) w' ∧ Below w.heap.size w w' ∧ Post i v w') : StepO P l a0 w0 Post Q i o := by
  refine stepO_plain hgd ds os hc (fun a w hg hf K hK => ?_)
  obtain ⟨v, w', h1, h2, h3⟩ := hr a w hg hf
  unfold Oper.wp
  rw [h1, Oper.upon_value]
  exact hK v w' h2 h3
/-- A value that is told ahead. -/
theorem stepO_val {i : Nat} {o : Oper} (hgd : o.guard = none) (ds : List (Nat × Tmp)) (os : List Tmp) (hc : depsB l i o ds os = true) (v : Value)
    (hr : ∀ a w, Below w0.heap.size w0 w → Found Post a0 a w ds os → (execOp a.eval o).run P w = .ok (.value v) w) (hp : ∀ w, Below w0.heap.size w0 w → Post i v w) : StepO P l a0 w0 Post Q i o :=
  stepO_run hgd ds os hc (fun a w hg hf => ⟨v, w, hr a w hg hf, Below.refl _ _, hp w hg⟩)
/-- A call. -/
theorem stepO_call {i : Nat} {o : Oper} (hgd : o.guard = none) (ds : List (Nat × Tmp)) (os : List Tmp) (hc : depsB l i o ds os = true) {f : FuncId} {fn : Func} {xs : Array Operand} {ts : Array TypeId} (hf : P.funcs[f]? = some fn) (hname : (fn.name == "runtime.NumGoroutine") = false) (hb : fn.body.isSome = true)
    (hop : o.op = .call { callee := .value (.func f), args := xs, argTypes := ts })
    (h : ∀ a w, Below w0.heap.size w0 w → Found Post a0 a w ds os → ∃ args, xs.map a.eval = args ∧ Calls P f args w fun e w' => ∃ v, e = .returned v ∧ Below w.heap.size w w' ∧ Post i v w') : StepO P l a0 w0 Post Q i o := by
  refine stepO_plain hgd ds os hc (fun a w hg hfd K hK => ?_)
  obtain ⟨args, hargs, hcall⟩ := h a w hg hfd
  have he := PrintLast.enters_ hf hname hb args w
  have hrun : (execOp a.eval o).run P w = .ok (.enter f args) w := by
    unfold execOp
    simp [hop, resolve, Act.eval, Deferred.ofValue, invoke, hargs, he]
  unfold Oper.wp
  rw [hrun, Oper.upon_enter]
  refine hcall.mono fun e w'' hh => ?_
  obtain ⟨v, rfl, hk, hp⟩ := hh
  exact hK v w'' hk hp
/-- '[]byte(s)'. -/
theorem stepO_bytes {i : Nat} {o : Oper} (hgd : o.guard = none) (ds : List (Nat × Tmp)) (os : List Tmp) (hc : depsB l i o ds os = true) {src dst e : TypeId} {x : Operand} (ho : o.op = .convert src dst x)
    (hs : P.underlying src = some .string) (hd : P.underlying dst = some (.slice e)) (he : P.underlying e = some (.int .u8)) (s : ByteArray) (hm : s.size ≤ 9223372036854775807)
    (hx : ∀ a w, Below w0.heap.size w0 w → Found Post a0 a w ds os → a.eval x = .string s) (hp : ∀ v w, Row (Kd.int .u8) (bytesOf s) v w → Post i v w) : StepO P l a0 w0 Post Q i o := by
  refine stepO_run hgd ds os hc (fun a w hg hf => ?_)
  have hr := run_bytes_of_string (P := P) w src dst e s hs hd he
  have hrun : (execOp a.eval o).run P w = .ok (.value (.slice (some ⟨w.heap.size, 0, none⟩) s.size (grownCap w s.size 0 e))) (w.drew.alloc (.cells (bytesRow s (grownCap w s.size 0 e)) e ((bytesRow s (grownCap w s.size 0 e)).size, (bytesRow s (grownCap w s.size 0 e)).size + 1))) := by
    unfold execOp
    simp only [ho, hx a w hg hf, Sem.run_bind, hr, Result.andThen_ok, Sem.run_pure]
  exact ⟨_, _, hrun, below_alloc (Below.refl _ _).drew _, hp _ _ (bytes_reads s hm _ (grownCap_ge w s.size 0 e) w.heap.size _ (blk_new w.drew _))⟩
/-- A literal of rows. -/
theorem stepO_lit {α : Type} {i : Nat} {o : Oper} (hgd : o.guard = none) (ds : List (Nat × Tmp)) (os : List Tmp) (hc : depsB l i o ds os = true) (d : Kd α) (e e2 : Nat) (xs : List (List α)) (hm : xs.length ≤ 9223372036854775807)
    (hr : ∀ a w, Below w0.heap.size w0 w → Found Post a0 a w ds os → ∃ vs : List Value, Rows d w vs xs ∧ (execOp a.eval o).run P w = .ok (.value (.slice (some ⟨w.heap.size, 0, none⟩) xs.length xs.length)) (w.alloc (.cells vs.toArray e2)))
    (hp : ∀ v w, Row (Kd.slice e d) xs v w → Post i v w) : StepO P l a0 w0 Post Q i o := by
  refine stepO_run hgd ds os hc (fun a w hg hf => ?_)
  obtain ⟨vs, h1, h2⟩ := hr a w hg hf
  exact ⟨_, _, h2, below_alloc (Below.refl _ _) _, hp _ _ (lit_reads (d := Kd.slice e d) (rows_reps h1) hm)⟩
/-- A literal of rows, one step of a walk in the text's order. -/
theorem wpList_rows {α : Type} {ops : Array Oper} {rest : List Oper} {o : Oper} {a : Act} {w : World} (hgd : o.guard = none) {N : Tmp} (hd : o.dst = some N) (d : Kd α) (e e2 : Nat) (vs : List Value) (xs : List (List α)) (hm : xs.length ≤ 9223372036854775807)
    (hrun : (execOp a.eval o).run P w = .ok (.value (.slice (some ⟨w.heap.size, 0, none⟩) xs.length xs.length)) (w.alloc (.cells vs.toArray e2))) (hrows : Rows d w vs xs)
    (h : ∀ A c w', xs.length ≤ c → Kd.C (Kd.slice e d) w' A xs.length xs → Below w.heap.size w w' → wpList P ops Q rest (a.put (some N) (.slice A xs.length c)) w') : wpList P ops Q (o :: rest) a w := by
  refine wpList_plain hgd fun K hK => ?_
  obtain ⟨A, c, h1, h2, h3⟩ := lit_reads (d := Kd.slice e d) (e := e2) (rows_reps hrows) hm
  unfold Oper.wp
  rw [hrun, Oper.upon_value, hd, h1]
  exact hK _ _ (h A c _ h2 h3 (below_alloc (Below.refl _ _) _))
end
end Go.Proofs.YtkghgjehjchajaaW.PrintGrow
namespace Go.Proofs.YtkghgjehjchajaaW.PrintGrow
open Go Go.RowKit Go.Proofs.YtkghgjehjchajaaW.PrintWords Go.Proofs.YtkghgjehjchajaaW.PrintHand Go.Proofs.YtkghgjehjchajaaW.PrintHx
set_option linter.unusedVariables false
section
variable {P : Program} {l : List Oper} {a0 : Act} {w0 : World} {Post : Nat → Value → World → Prop} {Q : Exit → Act → World → Prop}
/-- The last operation waits for all others: it is run behind them. -/
def lastB (l : List Oper) (m : Nat) : Bool := decide (l.length = m + 1) && match l[m]? with
  | some o => (List.range m).all fun j => needs o j
  | none => false
theorem grow_last {m : Nat} (hl : lastB l m = true) (hd : downB l = true) (hn : dstsB l a0.tmps.size = true) (hst : ∀ i v w w', Below w.heap.size w w' → Post i v w → Post i v w') (hs : ∀ i ∈ List.range m, StepG P l a0 w0 Post Q i)
    (hend : ∀ (vs : Nat → Value) w, Below w0.heap.size w0 w → (∀ i, i < m → Post i (vs i) w) → wpList P l.toArray Q (l.drop m) (fills a0 vs 0 (l.take m)) w) :
    ∀ (fuel : Nat) (b : Array Bool) (a : Act) (w : World), b.size = l.length → b.getD m true = false → ((List.range m).filter fun i => !b.getD i false).length = fuel → Inv l a0 w0 Post b a w → wpAny P .any l.toArray Q (fuel + 1) b a w := by
  have hlen : l.length = m + 1 := by
    unfold lastB at hl
    rw [Bool.and_eq_true] at hl
    exact of_decide_eq_true hl.1
  obtain ⟨om, hom⟩ : ∃ o, l[m]? = some o := ⟨_, List.getElem?_eq_getElem (by omega)⟩
  have hneed : ∀ j, j < m → needs om j = true := by
    unfold lastB at hl
    rw [Bool.and_eq_true, hom] at hl
    exact fun j hj => List.all_eq_true.1 hl.2 j (List.mem_range.2 hj)
  have hnd : (l.filterMap (·.dst)).Nodup := by
    unfold dstsB at hn
    rw [Bool.and_eq_true] at hn
    exact of_decide_eq_true hn.1
  have hlt : ∀ {i : Nat} {o : Oper} {t : Tmp}, l[i]? = some o → o.dst = some t → t < a0.tmps.size := by
    intro i o t hi ht
    unfold dstsB at hn
    rw [Bool.and_eq_true] at hn
    exact of_decide_eq_true (List.all_eq_true.1 hn.2 t (dst_mem (List.mem_of_getElem? hi) ht))
  have hdrop : l.drop m = [om] := by
    have h1 := List.drop_eq_getElem_cons (show m < l.length by omega)
    rw [List.getElem?_eq_getElem (show m < l.length by omega)] at hom
    rw [h1, List.drop_eq_nil_of_le (by omega), Option.some.inj hom]
  intro fuel
  induction fuel with
  | zero =>
    intro b a w hb hbm hc I
    have hall : ∀ i, i < m → b.getD i false = true := by
      intro i hi
      cases h : b.getD i false with
      | true => rfl
      | false =>
        have : i ∈ (List.range m).filter fun i => !b.getD i false := List.mem_filter.2 ⟨List.mem_range.2 hi, by simp [h]⟩
        rw [List.eq_nil_of_length_eq_zero hc] at this
        cases this
    have hmr : m ∈ Region.ready .any l.toArray b := mem_ready hom hbm (fun j hj => hall j (down_lt hd hom hj))
    have hex : ∀ i, i < m → ∃ v, (∀ o t, l[i]? = some o → o.dst = some t → a.tmps[t]? = some v) ∧ Post i v w := by
      intro i hi
      obtain ⟨v, h1, h2⟩ := I.done i l[i] (List.getElem?_eq_getElem (by omega)) (hall i hi)
      refine ⟨v, fun o t ho ht => h1 t ?_, h2⟩
      rw [List.getElem?_eq_getElem (show i < l.length by omega)] at ho
      rw [Option.some.inj ho]
      exact ht
    obtain ⟨vs, hvs⟩ := choose_all undef m hex
    have hnd2 : ((l.take m).filterMap (·.dst)).Nodup := by
      have := hnd
      rw [← List.take_append_drop m l, List.filterMap_append] at this
      exact (List.nodup_append.1 this).1
    have e : a = fills a0 vs 0 (l.take m) := by
      refine act_ext (Array.ext_getElem? fun t => ?_) (by rw [I.defers, fills_defers])
      by_cases ht : ∃ (i : Nat) (o : Oper), i < m ∧ l[i]? = some o ∧ o.dst = some t
      · obtain ⟨i, o, him, ho, hto⟩ := ht
        rw [fills_on vs hto (l.take m) 0 i a0 hnd2 (by rw [List.getElem?_take, if_pos him]; exact ho) (hlt ho hto), (hvs i him).1 o t ho hto, Nat.zero_add]
      · rw [fills_off vs (l.take m) 0 a0 (fun o ho hto => by
          obtain ⟨i, hi⟩ := List.mem_iff_getElem?.1 ho
          have him : i < m := by
            have := (List.getElem?_eq_some_iff.1 hi).1
            rw [List.length_take] at this
            omega
          rw [List.getElem?_take, if_pos him] at hi
          exact ht ⟨i, o, him, hi, hto⟩)]
        refine I.old t (fun i o ho hto => ?_)
        have hil := (List.getElem?_eq_some_iff.1 ho).1
        by_cases him : i < m
        · exact absurd ⟨i, o, him, ho, hto⟩ ht
        · rw [show i = m by omega]
          exact getD_both hbm
    have hk := hend vs w I.grown (fun i hi => (hvs i hi).2)
    rw [← e, hdrop] at hk
    refine ⟨fun hr => (by rw [hr] at hmr; cases hmr), fun i hi => ?_⟩
    obtain ⟨o, ho, h1, _⟩ := ready_mem hi
    have hil := (List.getElem?_eq_some_iff.1 ho).1
    have him : i = m := by
      by_cases him : i < m
      · have := hall i him
        rw [getD_both h1] at this
        cases this
      · omega
    subst him
    rw [hom] at ho
    cases ho
    have hnil : Region.ready .any l.toArray (b.setIfInBounds i true) = [] := by
      refine List.eq_nil_iff_forall_not_mem.2 (fun j hj => ?_)
      obtain ⟨oj, hoj, hj1, _⟩ := ready_mem hj
      have hjl := (List.getElem?_eq_some_iff.1 hoj).1
      by_cases hji : i = j
      · subst hji
        rw [set_same (by omega)] at hj1
        cases hj1
      · rw [set_ne hji] at hj1
        have := hall j (by omega)
        rw [getD_both hj1] at this
        cases this
    unfold wpOp
    have e2 : l.toArray[i]? = some om := by simpa using hom
    rw [e2]
    simp only []
    unfold wpList at hk
    split
    · rename_i hw
      rw [if_pos hw] at hk
      refine hk.imp (fun h => Oper.wp_mono (fun a' w' h' => ?_) h) id
      exact ⟨hnil, h'⟩
    · rename_i hw
      rw [if_neg hw] at hk
      exact ⟨hnil, hk⟩
  | succ fuel ih =>
    intro b a w hb hbm hc I
    have hex : ∃ i, i < m ∧ b.getD i false = false := by
      cases hf : (List.range m).filter (fun i => !b.getD i false) with
      | nil => rw [hf] at hc; simp at hc
      | cons x r =>
        have hx : x ∈ (List.range m).filter (fun i => !b.getD i false) := by rw [hf]; exact List.mem_cons_self
        rw [List.mem_filter, List.mem_range] at hx
        exact ⟨x, hx.1, by simpa using hx.2⟩
    refine ⟨fun hr => ?_, fun i hi => ?_⟩
    · exfalso
      have hmin : ∀ k i, i ≤ k → i < m → b.getD i false = false → ∃ j, j < m ∧ b.getD j false = false ∧ ∀ q, q < j → b.getD q false = true := by
        intro k
        induction k with
        | zero =>
          intro i h1 h2 h3
          exact ⟨i, h2, h3, fun q hq => by omega⟩
        | succ k ihk =>
          intro i h1 h2 h3
          by_cases hlow : ∃ j, j < i ∧ b.getD j false = false
          · obtain ⟨j, h4, h5⟩ := hlow
            exact ihk j (by omega) (by omega) h5
          · refine ⟨i, h2, h3, fun q hq => ?_⟩
            cases h : b.getD q false with
            | true => rfl
            | false => exact absurd ⟨q, hq, h⟩ hlow
      obtain ⟨i0, h1, h2⟩ := hex
      obtain ⟨i, h3, h4, h5⟩ := hmin i0 i0 (Nat.le_refl _) h1 h2
      have ho := List.getElem?_eq_getElem (show i < l.length by omega)
      have hb' : b.getD i true = false := by
        simp only [Array.getD_eq_getD_getElem?] at h4 ⊢
        have : b[i]? = some b[i] := Array.getElem?_eq_getElem (by omega)
        rw [this] at h4 ⊢
        simpa using h4
      have := mem_ready ho hb' (fun j hj => h5 j (down_lt hd ho hj))
      rw [hr] at this
      cases this
    · obtain ⟨o, ho, h1, h2⟩ := ready_mem hi
      have hil := (List.getElem?_eq_some_iff.1 ho).1
      have hbf := getD_both h1
      have him : i < m := by
        by_cases him : i < m
        · exact him
        · have hie : i = m := by omega
          subst hie
          rw [hom] at ho
          cases ho
          obtain ⟨j, hj, hjb⟩ := hex
          have := h2 j (hneed j hj)
          rw [hjb] at this
          cases this
      have hK : ∀ v w', Below w.heap.size w w' → Post i v w' → wpAny P .any l.toArray Q (fuel + 1) (b.setIfInBounds i true) (a.put o.dst v) w' := by
        intro v w' hg hp
        refine ih _ _ _ (by simpa using hb) (by rw [set_ne (by omega)]; exact hbm) ?_ (inv_next hn hst hb I ho hbf h2 hg hp)
        have := filter_less b i hbf (by omega) (List.range m) List.nodup_range (List.mem_range.2 him)
        omega
      have h3 := hs i (List.mem_range.2 him) o ho a w (inv_at hst I ho hbf h2) _ hK
      unfold wpOp
      have e : l.toArray[i]? = some o := by simpa using ho
      rw [e]
      simp only []
      split
      · rename_i hw
        rw [if_pos hw] at h3
        exact .inl h3
      · rename_i hw
        rw [if_neg hw] at h3
        exact h3
/-- A region whose last operation (a store ..) waits for all others. -/
theorem wp_region_grow_last {id : Nat} (m : Nat) (L : List (Value → World → Prop)) (hm : P.follows .mixedOrders = true) (hl : lastB l m = true) (hd : downB l = true) (hn : dstsB l a0.tmps.size = true) (hst : AllSt L) (hs : Steps P l a0 w0 (Posts L) Q (l.take m) 0)
    (hend : ∀ w, Below w0.heap.size w0 w → Ends (Posts L) (fun a => wpList P l.toArray Q (l.drop m) a w) w (l.take m) 0 a0) : (Code.region id l.toArray true).wp P Q a0 w0 := by
  refine wp_region_any hm ?_
  have hlen : l.length = m + 1 := by
    have h := hl
    unfold lastB at h
    rw [Bool.and_eq_true] at h
    exact of_decide_eq_true h.1
  have hz : ∀ i d, i < l.length → (Array.replicate l.toArray.size false).getD i d = false := by
    intro i d hi
    rw [Array.getD_eq_getD_getElem?, Array.getElem?_replicate, if_pos (by simpa using hi)]
    rfl
  have hz2 : ∀ i, (Array.replicate l.toArray.size false).getD i false = false := by
    intro i
    by_cases hi : i < l.length
    · exact hz i false hi
    · rw [Array.getD_eq_getD_getElem?, Array.getElem?_eq_none (by simpa using hi)]
      rfl
  have e0 : l.toArray.size = m + 1 := by simpa using hlen
  rw [e0]
  rw [e0] at hz hz2
  have htl : (l.take m).length = m := by rw [List.length_take]; omega
  refine grow_last hl hd hn (posts_stable hst) (fun i hi o ho => by
    have him := List.mem_range.1 hi
    have := steps_get hs (k := i) (o := o) (by rw [List.getElem?_take, if_pos him]; exact ho)
    rwa [Nat.zero_add] at this) (fun vs w hg hp => ends_fills (Q := fun a => wpList P l.toArray Q (l.drop m) a w) vs (l.take m) 0 a0 (hend w hg) (fun k hk => by rw [Nat.zero_add]; exact hp k (by omega))) m _ a0 _ (by simp; omega) (hz m true (by omega)) ?_ ⟨(Below.refl _ _).drew, rfl, rfl, fun _ _ => rfl, fun i o _ h => ?_, fun i o _ h => ?_⟩
  · have e : (List.range m).filter (fun i => !(Array.replicate (m + 1) false).getD i false) = List.range m := by
      refine List.filter_eq_self.2 (fun i _ => ?_)
      rw [hz2]
      rfl
    rw [e]
    simp
  · rw [hz2] at h
    cases h
  · rw [hz2] at h
    cases h
/-- A new variable, in a block from lo on. -/
def New (t : TypeId) (cs : Array Value) (lo : Nat) : Value → World → Prop := fun v w => ∃ g, lo ≤ g ∧ v = .pointer (some ⟨g, 0, none⟩) ∧ w.heap[g]? = some (.cells cs t (0, 0))
theorem st_new {t : TypeId} {cs : Array Value} {lo : Nat} : Stable (New t cs lo) := by
  rintro v w w' hb ⟨g, h1, h2, h3⟩
  exact ⟨g, h1, h2, blk_below h3 hb⟩
theorem stepO_alloc {i : Nat} {o : Oper} (hgd : o.guard = none) (ds : List (Nat × Tmp)) (os : List Tmp) (hc : depsB l i o ds os = true) {t : TypeId} (ho : o.op = .alloc t) (z : Value) (zs : Array Value) (hz : ∀ w, (zeroValue t).run P w = .ok z w) (hzs : z.cells = zs)
    (hp : ∀ v w, New t zs w0.heap.size v w → Post i v w) : StepO P l a0 w0 Post Q i o := by
  refine stepO_run hgd ds os hc (fun a w hg hf => ?_)
  subst hzs
  have hrun : (execOp a.eval o).run P w = .ok (.value (.pointer (some ⟨w.heap.size, 0, none⟩))) (w.alloc (.cells z.cells t)) := by
    unfold execOp
    simp only [ho, Instr.alloc, Sem.run_bind, hz, Result.andThen_ok, newVar, newRow, run_newObj_alloc, Sem.run_pure]
  exact ⟨_, _, hrun, below_alloc (Below.refl _ _) _, hp _ _ ⟨w.heap.size, hg.size, rfl, blk_new _ _⟩⟩
end
end Go.Proofs.YtkghgjehjchajaaW.PrintGrow
