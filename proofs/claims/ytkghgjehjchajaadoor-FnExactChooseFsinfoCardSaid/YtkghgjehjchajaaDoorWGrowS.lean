/- A region that draws its order, in which an operation may also set another frozen mark on a block of the region's own ('[]byte' of a constant): GrowT with a softer step. No condition. -/
import Derived.Test.YtkghgjehjchajaaDoorWGrowT
namespace Go.Proofs.YtkghgjehjchajaaDoorW.PrintGrow
open Go Go.RowKit Go.Proofs.YtkghgjehjchajaaDoorW.PrintWords Go.Proofs.YtkghgjehjchajaaDoorW.PrintHand Go.Proofs.YtkghgjehjchajaaDoorW.PrintHx
set_option linter.unusedVariables false
section
variable {P : Program} {l : List Oper} {a0 : Act} {w0 : World} {Post : Nat → Value → World → Prop} {Q : Exit → Act → World → Prop}
/-- Below B nothing turns; from B on a block keeps its cells, and may get another mark. -/
structure Soft (B : Nat) (w w' : World) : Prop where
  below : Below B w w'
  cell : ∀ a u, w.cell? a = some u → w'.cell? a = some u
  cells : ∀ (i : Nat) (cs : Array Value) (t : TypeId) (fr : Nat × Nat), w.heap[i]? = some (Obj.cells cs t fr) → ∃ fr', w'.heap[i]? = some (Obj.cells cs t fr')
theorem soft_below {B : Nat} {w w' : World} (hB : B ≤ w.heap.size) (h : Below w.heap.size w w') : Soft B w w' :=
  ⟨h.mono hB, fun a u hc => pw_cell_below h hc, fun i cs t fr hi => ⟨fr, by rw [h.block i (Array.getElem?_eq_some_iff.1 hi).1]; exact hi⟩⟩
theorem soft_freeze {B : Nat} {w : World} {p : Addr} (hp : B ≤ p.block) (n : Nat) : Soft B w (w.freeze p n) := by
  have hcs : ∀ (i : Nat) (cs : Array Value) (t : TypeId) (fr : Nat × Nat), w.heap[i]? = some (Obj.cells cs t fr) → ∃ fr', (w.freeze p n).heap[i]? = some (Obj.cells cs t fr') := by
    intro i cs t fr hi
    unfold World.freeze
    split
    · exact ⟨fr, hi⟩
    · simp only [Array.getElem?_modify]
      split
      · rw [hi]
        exact ⟨_, rfl⟩
      · exact ⟨fr, hi⟩
  refine ⟨?_, fun a u hc => ?_, hcs⟩
  · unfold World.freeze
    split
    · exact Below.refl _ _
    · refine ⟨rfl, rfl, rfl, by simp, fun k hk => ?_⟩
      simp only [Array.getElem?_modify]
      rw [if_neg (by omega)]
  unfold World.cell? at hc ⊢
  cases hb : w.heap[a.block]? with
  | none => rw [hb] at hc; cases hc
  | some o =>
    cases o with
    | cells cs t fr =>
      obtain ⟨fr', h'⟩ := hcs _ _ _ _ hb
      rw [hb] at hc
      rw [h']
      exact hc
    | _ => rw [hb] at hc; cases hc
/-- The step of operation i. -/
def StepGS (P : Program) (l : List Oper) (a0 : Act) (w0 : World) (Post : Nat → Value → World → Prop) (Q : Exit → Act → World → Prop) (i : Nat) : Prop :=
  ∀ o, l[i]? = some o → ∀ a w, At l a0 w0 Post i o a w → ∀ K : Act → World → Prop, (∀ v w', Soft w0.heap.size w w' → Post i v w' → K (a.put o.dst v) w') →
    if Region.wanted o (yielded l.toArray a.tmps) = true then Oper.wp P o a w K Q else K (a.put o.dst undef) w
theorem inv_atS (hst : ∀ i v w w', Soft w0.heap.size w w' → Post i v w → Post i v w') {b : Array Bool} {a : Act} {w : World} {i : Nat} {o : Oper} (I : Inv l a0 w0 Post b a w) (ho : l[i]? = some o) (hbf : b.getD i false = false) (h2 : ∀ j, needs o j = true → b.getD j false = true) : At l a0 w0 Post i o a w := by
  refine ⟨I.grown, fun j oj t hj hn hto => ?_, fun t hq => I.old t (fun k ok hk hto => ?_)⟩
  · obtain ⟨v, h3, h4⟩ := I.done j oj hj (h2 j hn)
    exact ⟨v, h3 t hto, h4⟩
  · have h3 := List.all_eq_true.1 hq k (List.mem_range.2 (List.getElem?_eq_some_iff.1 hk).1)
    rw [hk] at h3
    simp only [Bool.or_eq_true, Bool.not_eq_true', beq_eq_false_iff_ne, beq_iff_eq] at h3
    rcases h3 with (h3 | h3) | h3
    · exact absurd hto h3
    · rw [h3]; exact hbf
    · cases hbk : b.getD k false with
      | false => rfl
      | true =>
        have := I.shut k ok hk hbk i h3
        rw [hbf] at this
        cases this
theorem inv_nextS (hn : dstsB l a0.tmps.size = true) (hst : ∀ i v w w', Soft w0.heap.size w w' → Post i v w → Post i v w') {b : Array Bool} {a : Act} {w : World} {i : Nat} {o : Oper} (hb : b.size = l.length) (I : Inv l a0 w0 Post b a w) (ho : l[i]? = some o) (hbf : b.getD i false = false) (h2 : ∀ j, needs o j = true → b.getD j false = true)
    {v : Value} {w' : World} (hg : Soft w0.heap.size w w') (hp : Post i v w') : Inv l a0 w0 Post (b.setIfInBounds i true) (a.put o.dst v) w' := by
  have hnd : (l.filterMap (·.dst)).Nodup := by
    unfold dstsB at hn
    rw [Bool.and_eq_true] at hn
    exact of_decide_eq_true hn.1
  have hlt : ∀ {i : Nat} {o : Oper} {t : Tmp}, l[i]? = some o → o.dst = some t → t < a0.tmps.size := by
    intro i o t hi ht
    unfold dstsB at hn
    rw [Bool.and_eq_true] at hn
    exact of_decide_eq_true (List.all_eq_true.1 hn.2 t (dst_mem (List.mem_of_getElem? hi) ht))
  have hil := (List.getElem?_eq_some_iff.1 ho).1
  refine ⟨I.grown.trans hg.below, by rw [put_size]; exact I.size, by rw [put_defers]; exact I.defers, fun t ht => ?_, fun j oj hj hbj => ?_, fun j oj hj hbj m hm => ?_⟩
  · have hne : o.dst ≠ some t := fun e => by
      have := ht i o ho e
      rw [set_same (by omega)] at this
      cases this
    rw [put_ne hne]
    refine I.old t (fun k ok hk hto => ?_)
    have h3 := ht k ok hk hto
    rwa [set_ne (fun e => by subst e; rw [ho] at hk; cases hk; exact hne hto)] at h3
  · by_cases hij : i = j
    · subst hij
      rw [ho] at hj
      cases hj
      exact ⟨v, fun t hto => by rw [hto]; exact put_on (by rw [I.size]; exact hlt ho hto), hp⟩
    · rw [set_ne hij] at hbj
      obtain ⟨u, h3, h4⟩ := I.done j oj hj hbj
      refine ⟨u, fun t hto => ?_, hst j u w w' hg h4⟩
      rw [put_ne (fun e => hij (dst_one hnd ho hj e hto))]
      exact h3 t hto
  · by_cases hij : i = j
    · subst hij
      rw [ho] at hj
      cases hj
      have h3 := h2 m hm
      rw [set_ne (fun e => by subst e; rw [hbf] at h3; cases h3)]
      exact h3
    · rw [set_ne hij] at hbj
      have h3 := I.shut j oj hj hbj m hm
      rw [set_ne (fun e => by subst e; rw [hbf] at h3; cases h3)]
      exact h3
theorem grow_tailS {m : Nat} (hl : tailB l m = true) (hd : downB l = true) (hn : dstsB l a0.tmps.size = true) (hst : ∀ i v w w', Soft w0.heap.size w w' → Post i v w → Post i v w') (hs : ∀ i ∈ List.range m, StepGS P l a0 w0 Post Q i)
    (hend : ∀ (vs : Nat → Value) w, Below w0.heap.size w0 w → (∀ i, i < m → Post i (vs i) w) → wpList P l.toArray Q (l.drop m) (fills a0 vs 0 (l.take m)) w) :
    ∀ (fuel : Nat) (b : Array Bool) (a : Act) (w : World), b.size = l.length → (∀ t, m ≤ t → b.getD t false = false) → ((List.range m).filter fun i => !b.getD i false).length = fuel → Inv l a0 w0 Post b a w → wpAny P .any l.toArray Q (fuel + (l.length - m)) b a w := by
  have hl0 := hl
  unfold tailB at hl0
  simp only [Bool.and_eq_true, decide_eq_true_eq] at hl0
  obtain ⟨hml, hsink, hchain, hseq⟩ := hl0
  have hnd : (l.filterMap (·.dst)).Nodup := by
    unfold dstsB at hn
    rw [Bool.and_eq_true] at hn
    exact of_decide_eq_true hn.1
  have hlt : ∀ {i : Nat} {o : Oper} {t : Tmp}, l[i]? = some o → o.dst = some t → t < a0.tmps.size := by
    intro i o t hi ht
    unfold dstsB at hn
    rw [Bool.and_eq_true] at hn
    exact of_decide_eq_true (List.all_eq_true.1 hn.2 t (dst_mem (List.mem_of_getElem? hi) ht))
  intro fuel
  induction fuel with
  | zero =>
    intro b a w hb hbm hc I
    have hall : ∀ i, i < m → b.getD i false = true := by
      intro i hi
      cases h : b.getD i false with
      | true => rfl
      | false =>
        have : i ∈ (List.range m).filter fun i => !b.getD i false := List.mem_filter.2 ⟨List.mem_range.2 hi, by simp [h]⟩
        rw [List.eq_nil_of_length_eq_zero hc] at this
        cases this
    have hex : ∀ i, i < m → ∃ v, (∀ o t, l[i]? = some o → o.dst = some t → a.tmps[t]? = some v) ∧ Post i v w := by
      intro i hi
      obtain ⟨v, h1, h2⟩ := I.done i l[i] (List.getElem?_eq_getElem (by omega)) (hall i hi)
      refine ⟨v, fun o t ho ht => h1 t ?_, h2⟩
      rw [List.getElem?_eq_getElem (show i < l.length by omega)] at ho
      rw [Option.some.inj ho]
      exact ht
    obtain ⟨vs, hvs⟩ := choose_all undef m hex
    have hnd2 : ((l.take m).filterMap (·.dst)).Nodup := by
      have := hnd
      rw [← List.take_append_drop m l, List.filterMap_append] at this
      exact (List.nodup_append.1 this).1
    have e : a = fills a0 vs 0 (l.take m) := by
      refine act_ext (Array.ext_getElem? fun t => ?_) (by rw [I.defers, fills_defers])
      by_cases ht : ∃ (i : Nat) (o : Oper), i < m ∧ l[i]? = some o ∧ o.dst = some t
      · obtain ⟨i, o, him, ho, hto⟩ := ht
        rw [fills_on vs hto (l.take m) 0 i a0 hnd2 (by rw [List.getElem?_take, if_pos him]; exact ho) (hlt ho hto), (hvs i him).1 o t ho hto, Nat.zero_add]
      · rw [fills_off vs (l.take m) 0 a0 (fun o ho hto => by
          obtain ⟨i, hi⟩ := List.mem_iff_getElem?.1 ho
          have him : i < m := by
            have := (List.getElem?_eq_some_iff.1 hi).1
            rw [List.length_take] at this
            omega
          rw [List.getElem?_take, if_pos him] at hi
          exact ht ⟨i, o, him, hi, hto⟩)]
        refine I.old t (fun i o ho hto => ?_)
        have hil := (List.getElem?_eq_some_iff.1 ho).1
        by_cases him : i < m
        · exact absurd ⟨i, o, him, ho, hto⟩ ht
        · exact hbm i (by omega)
    have hk := hend vs w I.grown (fun i hi => (hvs i hi).2)
    rw [← e] at hk
    have hbe : b = mask l.length m := mask_of hb (fun i hi _ => hall i hi) hbm
    have hsq := wpAny_of_seq (md := .any) (Q' := Q) (l.drop m) m b a w (fun j => by simp [List.getElem?_drop]) (by rw [hbe, List.length_drop]; exact hseq) hk
    rw [List.length_drop] at hsq
    rw [Nat.zero_add]
    exact hsq
  | succ fuel ih =>
    intro b a w hb hbm hc I
    have hex : ∃ i, i < m ∧ b.getD i false = false := by
      cases hf : (List.range m).filter (fun i => !b.getD i false) with
      | nil => rw [hf] at hc; simp at hc
      | cons x r =>
        have hx : x ∈ (List.range m).filter (fun i => !b.getD i false) := by rw [hf]; exact List.mem_cons_self
        rw [List.mem_filter, List.mem_range] at hx
        exact ⟨x, hx.1, by simpa using hx.2⟩
    rw [show fuel + 1 + (l.length - m) = (fuel + (l.length - m)) + 1 by omega]
    refine ⟨fun hr => ?_, fun i hi => ?_⟩
    · exfalso
      have hmin : ∀ k i, i ≤ k → i < m → b.getD i false = false → ∃ j, j < m ∧ b.getD j false = false ∧ ∀ q, q < j → b.getD q false = true := by
        intro k
        induction k with
        | zero =>
          intro i h1 h2 h3
          exact ⟨i, h2, h3, fun q hq => by omega⟩
        | succ k ihk =>
          intro i h1 h2 h3
          by_cases hlow : ∃ j, j < i ∧ b.getD j false = false
          · obtain ⟨j, h4, h5⟩ := hlow
            exact ihk j (by omega) (by omega) h5
          · refine ⟨i, h2, h3, fun q hq => ?_⟩
            cases h : b.getD q false with
            | true => rfl
            | false => exact absurd ⟨q, hq, h⟩ hlow
      obtain ⟨i0, h1, h2⟩ := hex
      obtain ⟨i, h3, h4, h5⟩ := hmin i0 i0 (Nat.le_refl _) h1 h2
      have ho := List.getElem?_eq_getElem (show i < l.length by omega)
      have hb' : b.getD i true = false := by
        simp only [Array.getD_eq_getD_getElem?] at h4 ⊢
        have : b[i]? = some b[i] := Array.getElem?_eq_getElem (by omega)
        rw [this] at h4 ⊢
        simpa using h4
      have := mem_ready ho hb' (fun j hj => h5 j (down_lt hd ho hj))
      rw [hr] at this
      cases this
    · obtain ⟨o, ho, h1, h2⟩ := ready_mem hi
      have hil := (List.getElem?_eq_some_iff.1 ho).1
      have hbf := getD_both h1
      have him : i < m := by
        by_cases him : i < m
        · exact him
        · obtain ⟨j, hj, hjb⟩ := hex
          have hinv : HeadInv .any l.toArray m b := ⟨by simpa using hb, fun q oq hq hlq e he hbn => I.shut q oq (by simpa using hq) hlq e.on (by
            unfold needs
            exact Array.any_eq_true'.2 ⟨e, he, by simp [hbn]⟩), fun t ht htl => getD_in (by rw [hb]; simpa using htl) (hbm t ht)⟩
          exact absurd hi (tail_waits hsink hchain (by simpa using hml) hinv _ j rfl hj (getD_in (by omega) hjb) i (by omega))
      have hK : ∀ v w', Soft w0.heap.size w w' → Post i v w' → wpAny P .any l.toArray Q (fuel + (l.length - m)) (b.setIfInBounds i true) (a.put o.dst v) w' := by
        intro v w' hg hp
        refine ih _ _ _ (by simpa using hb) (fun t ht => by rw [set_ne (by omega)]; exact hbm t ht) ?_ (inv_nextS hn hst hb I ho hbf h2 hg hp)
        have := filter_less b i hbf (by omega) (List.range m) List.nodup_range (List.mem_range.2 him)
        omega
      have h3 := hs i (List.mem_range.2 him) o ho a w (inv_atS hst I ho hbf h2) _ hK
      unfold wpOp
      have e : l.toArray[i]? = some o := by simpa using ho
      rw [e]
      simp only []
      split
      · rename_i hw
        rw [if_pos hw] at h3
        exact .inl h3
      · rename_i hw
        rw [if_neg hw] at h3
        exact h3
/-- The step of the operation o, which has number i. -/
def StepOS (P : Program) (l : List Oper) (a0 : Act) (w0 : World) (Post : Nat → Value → World → Prop) (Q : Exit → Act → World → Prop) (i : Nat) (o : Oper) : Prop :=
  ∀ a w, At l a0 w0 Post i o a w → ∀ K : Act → World → Prop, (∀ v w', Soft w0.heap.size w w' → Post i v w' → K (a.put o.dst v) w') →
    if Region.wanted o (yielded l.toArray a.tmps) = true then Oper.wp P o a w K Q else K (a.put o.dst undef) w
def StepsS (P : Program) (l : List Oper) (a0 : Act) (w0 : World) (Post : Nat → Value → World → Prop) (Q : Exit → Act → World → Prop) : List Oper → Nat → Prop
  | [], _ => True
  | o :: r, i => StepOS P l a0 w0 Post Q i o ∧ StepsS P l a0 w0 Post Q r (i + 1)
theorem stepsS_cons {o : Oper} {r : List Oper} {i : Nat} (h : StepOS P l a0 w0 Post Q i o) (hs : StepsS P l a0 w0 Post Q r (i + 1)) : StepsS P l a0 w0 Post Q (o :: r) i := ⟨h, hs⟩
theorem stepsS_nil {i : Nat} : StepsS P l a0 w0 Post Q [] i := trivial
theorem stepsS_get : ∀ {r : List Oper} {i k : Nat} {o : Oper}, StepsS P l a0 w0 Post Q r i → r[k]? = some o → StepOS P l a0 w0 Post Q (i + k) o
  | [], _, _, _, _, h => by simp at h
  | x :: r, i, 0, o, hs, h => by
    have e : x = o := by simpa using h
    subst e
    exact hs.1
  | x :: r, i, k + 1, o, hs, h => by
    have := stepsS_get (i := i + 1) (k := k) hs.2 (by simpa using h)
    rwa [show i + 1 + k = i + (k + 1) by omega] at this
def StableS (B : Nat) (p : Value → World → Prop) : Prop := ∀ v w w', Soft B w w' → p v w → p v w'
def AllStS (B : Nat) : List (Value → World → Prop) → Prop
  | [] => True
  | p :: r => StableS B p ∧ AllStS B r
theorem allstS_nil {B : Nat} : AllStS B [] := trivial
theorem allstS_cons {B : Nat} {p : Value → World → Prop} {r : List (Value → World → Prop)} (h : StableS B p) (hr : AllStS B r) : AllStS B (p :: r) := ⟨h, hr⟩
theorem posts_stableS {B : Nat} : ∀ {L : List (Value → World → Prop)}, AllStS B L → ∀ i v w w', Soft B w w' → Posts L i v w → Posts L i v w'
  | [], _, i, v, w, w', _, _ => by simp [Posts]
  | p :: r, h, 0, v, w, w', hb, hp => h.1 v w w' hb hp
  | p :: r, h, i + 1, v, w, w', hb, hp => posts_stableS h.2 i v w w' hb hp
theorem stS_is {B : Nat} {V : Value} : StableS B (Is V) := fun _ _ _ _ h => h
theorem stS_row {B : Nat} {k : IntKind} {xs : List Int} : StableS B (Row (Kd.int k) xs) := by
  rintro v w w' hb ⟨A, c, h1, h2, h3, h4, h5⟩
  refine ⟨A, c, h1, h2, h3, h4, fun hn => ?_⟩
  obtain ⟨ad, e, hc⟩ := h5 hn
  refine ⟨ad, e, fun j p hj => ?_⟩
  obtain ⟨cs, hs, hr, hcell⟩ := hc j p hj
  exact ⟨cs, hs, hr, fun i u hu => hb.cell _ _ (hcell i u hu)⟩
/-- A literal's block, of the region's own, whatever its mark. -/
def LitB (B : Nat) (cs : Array Value) (t : TypeId) (n : Nat) : Value → World → Prop := fun v w => ∃ g fr, B ≤ g ∧ v = .slice (some ⟨g, 0, none⟩) n n ∧ w.heap[g]? = some (Obj.cells cs t fr)
theorem stS_lit {B : Nat} {cs : Array Value} {t : TypeId} {n : Nat} : StableS B (LitB B cs t n) := by
  rintro v w w' hb ⟨g, fr, h1, h2, h3⟩
  obtain ⟨fr', h4⟩ := hb.cells _ _ _ _ h3
  exact ⟨g, fr', h1, h2, h4⟩
theorem stepS_of {i : Nat} {o : Oper} (h : StepO P l a0 w0 Post Q i o) : StepOS P l a0 w0 Post Q i o :=
  fun a w hat K hK => h a w hat K (fun v w' hb hp => hK v w' (soft_below hat.grown.size hb) hp)
theorem stepS_run {i : Nat} {o : Oper} (hgd : o.guard = none) (ds : List (Nat × Tmp)) (os : List Tmp) (hc : depsB l i o ds os = true)
    (hr : ∀ a w, Below w0.heap.size w0 w → Found Post a0 a w ds os → ∃ v w', (execOp a.eval o).run P w = .ok (.value v) w' ∧ Soft w0.heap.size w w' ∧ Post i v w') : StepOS P l a0 w0 Post Q i o := by
  intro a w hat K hK
  have hw : Region.wanted o (yielded l.toArray a.tmps) = true := by simp [Region.wanted, hgd]
  rw [if_pos hw]
  obtain ⟨v, w', h1, h2, h3⟩ := hr a w hat.grown (found_of hat hc)
  unfold Oper.wp
  rw [h1, Oper.upon_value]
  exact hK v w' h2 h3
/-- '[]byte' of a constant: the literal's row gets its mark. -/
theorem run_convert_mark (w : World) (t e : TypeId) (cs : Array Value) (fr : Nat × Nat) (g n c : Nat) (ht : P.underlying t = some (.slice e)) (he : P.underlying e = some (.int .u8)) (hg : w.heap[g]? = some (Obj.cells cs e fr)) :
    (convert t t (.slice (some ⟨g, 0, none⟩) n c)).run P w = .ok (.slice (some ⟨g, 0, none⟩) n c) (w.freeze ⟨g, cs.size, none⟩ 1) := by
  have hsh : w.shape? g = some (e, cs.size) := by
    unfold World.shape?
    rw [hg]
  simp [convert, run_underlying ht, run_underlying he, markStringish, hsh]
/-- A row of whole numbers in a block, whatever its mark. -/
theorem lit_row {k : IntKind} {w : World} {g : Nat} {t : TypeId} {fr : Nat × Nat} (xs : List Int) (h : w.heap[g]? = some (Obj.cells (nums k xs).toArray t fr)) (hm : xs.length ≤ 9223372036854775807) : Row (Kd.int k) xs (.slice (some ⟨g, 0, none⟩) xs.length xs.length) w := by
  refine ⟨_, _, rfl, Nat.le_refl _, rfl, hm, fun _ => ⟨_, rfl, fun j p hj => ⟨[.int k p], rfl, rfl, fun i u hi => ?_⟩⟩⟩
  have hi0 : i = 0 := by
    have := (List.getElem?_eq_some_iff.1 hi).1
    simpa using this
  subst hi0
  have hu : u = .int k p := by simpa using hi.symm
  subst hu
  have ha : (⟨g, 0, none⟩ : Addr).add (j * (Kd.int k).sz + 0) = ⟨g, j, none⟩ := by
    show (⟨g, 0, none⟩ : Addr).add (j * 1 + 0) = _
    rw [add_plain]
    simp
  rw [ha]
  simp only [World.cell?, h]
  simp [nums, hj]
/-- A region whose tail has one order, behind all others. -/
theorem wp_region_grow_tailS {id : Nat} (m : Nat) (L : List (Value → World → Prop)) (hm : P.follows .mixedOrders = true) (hl : tailB l m = true) (hd : downB l = true) (hn : dstsB l a0.tmps.size = true) (hst : AllStS w0.heap.size L) (hs : StepsS P l a0 w0 (Posts L) Q (l.take m) 0)
    (hend : ∀ w, Below w0.heap.size w0 w → Ends (Posts L) (fun a => wpList P l.toArray Q (l.drop m) a w) w (l.take m) 0 a0) : (Code.region id l.toArray true).wp P Q a0 w0 := by
  refine wp_region_any hm ?_
  have hl0 := hl
  unfold tailB at hl0
  simp only [Bool.and_eq_true, decide_eq_true_eq] at hl0
  have hlen := hl0.1
  have hz : ∀ i d, i < l.length → (Array.replicate l.toArray.size false).getD i d = false := by
    intro i d hi
    rw [Array.getD_eq_getD_getElem?, Array.getElem?_replicate, if_pos (by simpa using hi)]
    rfl
  have hz2 : ∀ i, (Array.replicate l.toArray.size false).getD i false = false := by
    intro i
    by_cases hi : i < l.length
    · exact hz i false hi
    · rw [Array.getD_eq_getD_getElem?, Array.getElem?_eq_none (by simpa using hi)]
      rfl
  have e0 : l.toArray.size = m + (l.length - m) := by simp; omega
  rw [e0]
  rw [e0] at hz hz2
  have htl : (l.take m).length = m := by rw [List.length_take]; omega
  refine grow_tailS hl hd hn (posts_stableS hst) (fun i hi o ho => by
    have him := List.mem_range.1 hi
    have := stepsS_get hs (k := i) (o := o) (by rw [List.getElem?_take, if_pos him]; exact ho)
    rwa [Nat.zero_add] at this) (fun vs w hg hp => ends_fills (Q := fun a => wpList P l.toArray Q (l.drop m) a w) vs (l.take m) 0 a0 (hend w hg) (fun k hk => by rw [Nat.zero_add]; exact hp k (by omega))) m _ a0 _ (by simp; omega) (fun t _ => hz2 t) ?_ ⟨(Below.refl _ _).drew, rfl, rfl, fun _ _ => rfl, fun i o _ h => ?_, fun i o _ h => ?_⟩
  · have e : (List.range m).filter (fun i => !(Array.replicate (m + (l.length - m)) false).getD i false) = List.range m := by
      refine List.filter_eq_self.2 (fun i _ => ?_)
      rw [hz2]
      rfl
    rw [e]
    simp
  · rw [hz2] at h
    cases h
  · rw [hz2] at h
    cases h
end
end Go.Proofs.YtkghgjehjchajaaDoorW.PrintGrow
