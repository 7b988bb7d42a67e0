/- Words for walks (what is used of them); written by a program of this session out of its words and the kit print's. No condition. -/
import Derived.ChangeKeysEq
import Derived.Laws.CopyOwn
import Derived.Laws.Tables
import Derived.LaidEql
import Derived.Stop.Asserts
import Derived.RowKitTokens
import Derived.Lib.BufferWrite
import Derived.StillTail
import Derived.Deep.QuietTactic
import Derived.Maps.Own
import Derived.Maps.Views
import Derived.Lib.LaidTab
import Derived.Test.YtknlpjoidjgciaaDoorQW1
section
namespace Go.Proofs.YtknlpjoidjgciaaDoorW.PrintGrow
open Go Go.RowKit Go.Proofs.YtknlpjoidjgciaaDoorW.PrintWords Go.Proofs.YtknlpjoidjgciaaDoorW.PrintHand Go.Proofs.YtknlpjoidjgciaaDoorW.PrintHx
set_option linter.unusedVariables false
section
variable {P : Program} {l : List Oper} {a0 : Act} {w0 : World} {Post : Nat → Value → World → Prop} {Q : Exit → Act → World → Prop}
structure Soft (B : Nat) (w w' : World) : Prop where
  below : Below B w w'
  cell : ∀ a u, w.cell? a = some u → w'.cell? a = some u
  cells : ∀ (i : Nat) (cs : Array Value) (t : TypeId) (fr : Nat × Nat), w.heap[i]? = some (Obj.cells cs t fr) → ∃ fr', w'.heap[i]? = some (Obj.cells cs t fr')
theorem soft_below {B : Nat} {w w' : World} (hB : B ≤ w.heap.size) (h : Below w.heap.size w w') : Soft B w w' :=
  ⟨h.mono hB, fun a u hc => pw_cell_below h hc, fun i cs t fr hi => ⟨fr, by rw [h.block i (Array.getElem?_eq_some_iff.1 hi).1]; exact hi⟩⟩
theorem soft_freeze {B : Nat} {w : World} {p : Addr} (hp : B ≤ p.block) (n : Nat) : Soft B w (w.freeze p n) := by
  have hcs : ∀ (i : Nat) (cs : Array Value) (t : TypeId) (fr : Nat × Nat), w.heap[i]? = some (Obj.cells cs t fr) → ∃ fr', (w.freeze p n).heap[i]? = some (Obj.cells cs t fr') := by
    intro i cs t fr hi
    unfold World.freeze
    split
    · exact ⟨fr, hi⟩
    · simp only [Array.getElem?_modify]
      split
      · rw [hi]
        exact ⟨_, rfl⟩
      · exact ⟨fr, hi⟩
  refine ⟨?_, fun a u hc => ?_, hcs⟩
  · unfold World.freeze
    split
    · exact Below.refl _ _
    · refine ⟨rfl, rfl, rfl, by simp, fun k hk => ?_⟩
      simp only [Array.getElem?_modify]
      rw [if_neg (by omega)]
  unfold World.cell? at hc ⊢
  cases hb : w.heap[a.block]? with
  | none => rw [hb] at hc; cases hc
  | some o =>
    cases o with
    | cells cs t fr =>
      obtain ⟨fr', h'⟩ := hcs _ _ _ _ hb
      rw [hb] at hc
      rw [h']
      exact hc
    | _ => rw [hb] at hc; cases hc
def StepGS (P : Program) (l : List Oper) (a0 : Act) (w0 : World) (Post : Nat → Value → World → Prop) (Q : Exit → Act → World → Prop) (i : Nat) : Prop :=
  ∀ o, l[i]? = some o → ∀ a w, At l a0 w0 Post i o a w → ∀ K : Act → World → Prop, (∀ v w', Soft w0.heap.size w w' → Post i v w' → K (a.put o.dst v) w') →
    if Region.wanted o (yielded l.toArray a.tmps) = true then Oper.wp P o a w K Q else K (a.put o.dst undef) w
theorem inv_atS (hst : ∀ i v w w', Soft w0.heap.size w w' → Post i v w → Post i v w') {b : Array Bool} {a : Act} {w : World} {i : Nat} {o : Oper} (I : Inv l a0 w0 Post b a w) (ho : l[i]? = some o) (hbf : b.getD i false = false) (h2 : ∀ j, needs o j = true → b.getD j false = true) : At l a0 w0 Post i o a w := by
  refine ⟨I.grown, fun j oj t hj hn hto => ?_, fun t hq => I.old t (fun k ok hk hto => ?_)⟩
  · obtain ⟨v, h3, h4⟩ := I.done j oj hj (h2 j hn)
    exact ⟨v, h3 t hto, h4⟩
  · have h3 := List.all_eq_true.1 hq k (List.mem_range.2 (List.getElem?_eq_some_iff.1 hk).1)
    rw [hk] at h3
    simp only [Bool.or_eq_true, Bool.not_eq_true', beq_eq_false_iff_ne, beq_iff_eq] at h3
    rcases h3 with (h3 | h3) | h3
    · exact absurd hto h3
    · rw [h3]; exact hbf
    · cases hbk : b.getD k false with
      | false => rfl
      | true =>
        have := I.shut k ok hk hbk i h3
        rw [hbf] at this
        cases this
theorem inv_nextS (hn : dstsB l a0.tmps.size = true) (hst : ∀ i v w w', Soft w0.heap.size w w' → Post i v w → Post i v w') {b : Array Bool} {a : Act} {w : World} {i : Nat} {o : Oper} (hb : b.size = l.length) (I : Inv l a0 w0 Post b a w) (ho : l[i]? = some o) (hbf : b.getD i false = false) (h2 : ∀ j, needs o j = true → b.getD j false = true)
    {v : Value} {w' : World} (hg : Soft w0.heap.size w w') (hp : Post i v w') : Inv l a0 w0 Post (b.setIfInBounds i true) (a.put o.dst v) w' := by
  have hnd : (l.filterMap (·.dst)).Nodup := by
    unfold dstsB at hn
    rw [Bool.and_eq_true] at hn
    exact of_decide_eq_true hn.1
  have hlt : ∀ {i : Nat} {o : Oper} {t : Tmp}, l[i]? = some o → o.dst = some t → t < a0.tmps.size := by
    intro i o t hi ht
    unfold dstsB at hn
    rw [Bool.and_eq_true] at hn
    exact of_decide_eq_true (List.all_eq_true.1 hn.2 t (dst_mem (List.mem_of_getElem? hi) ht))
  have hil := (List.getElem?_eq_some_iff.1 ho).1
  refine ⟨I.grown.trans hg.below, by rw [put_size]; exact I.size, by rw [put_defers]; exact I.defers, fun t ht => ?_, fun j oj hj hbj => ?_, fun j oj hj hbj m hm => ?_⟩
  · have hne : o.dst ≠ some t := fun e => by
      have := ht i o ho e
      rw [set_same (by omega)] at this
      cases this
    rw [put_ne hne]
    refine I.old t (fun k ok hk hto => ?_)
    have h3 := ht k ok hk hto
    rwa [set_ne (fun e => by subst e; rw [ho] at hk; cases hk; exact hne hto)] at h3
  · by_cases hij : i = j
    · subst hij
      rw [ho] at hj
      cases hj
      exact ⟨v, fun t hto => by rw [hto]; exact put_on (by rw [I.size]; exact hlt ho hto), hp⟩
    · rw [set_ne hij] at hbj
      obtain ⟨u, h3, h4⟩ := I.done j oj hj hbj
      refine ⟨u, fun t hto => ?_, hst j u w w' hg h4⟩
      rw [put_ne (fun e => hij (dst_one hnd ho hj e hto))]
      exact h3 t hto
  · by_cases hij : i = j
    · subst hij
      rw [ho] at hj
      cases hj
      have h3 := h2 m hm
      rw [set_ne (fun e => by subst e; rw [hbf] at h3; cases h3)]
      exact h3
    · rw [set_ne hij] at hbj
      have h3 := I.shut j oj hj hbj m hm
      rw [set_ne (fun e => by subst e; rw [hbf] at h3; cases h3)]
      exact h3
theorem grow_tailS {m : Nat} (hl : tailB l m = true) (hd : downB l = true) (hn : dstsB l a0.tmps.size = true) (hst : ∀ i v w w', Soft w0.heap.size w w' → Post i v w → Post i v w') (hs : ∀ i ∈ List.range m, StepGS P l a0 w0 Post Q i)
    (hend : ∀ (vs : Nat → Value) w, Below w0.heap.size w0 w → (∀ i, i < m → Post i (vs i) w) → wpList P l.toArray Q (l.drop m) (fills a0 vs 0 (l.take m)) w) :
    ∀ (fuel : Nat) (b : Array Bool) (a : Act) (w : World), b.size = l.length → (∀ t, m ≤ t → b.getD t false = false) → ((List.range m).filter fun i => !b.getD i false).length = fuel → Inv l a0 w0 Post b a w → wpAny P .any l.toArray Q (fuel + (l.length - m)) b a w := by
  have hl0 := hl
  unfold tailB at hl0
  simp only [Bool.and_eq_true, decide_eq_true_eq] at hl0
  obtain ⟨hml, hsink, hchain, hseq⟩ := hl0
  have hnd : (l.filterMap (·.dst)).Nodup := by
    unfold dstsB at hn
    rw [Bool.and_eq_true] at hn
    exact of_decide_eq_true hn.1
  have hlt : ∀ {i : Nat} {o : Oper} {t : Tmp}, l[i]? = some o → o.dst = some t → t < a0.tmps.size := by
    intro i o t hi ht
    unfold dstsB at hn
    rw [Bool.and_eq_true] at hn
    exact of_decide_eq_true (List.all_eq_true.1 hn.2 t (dst_mem (List.mem_of_getElem? hi) ht))
  intro fuel
  induction fuel with
  | zero =>
    intro b a w hb hbm hc I
    have hall : ∀ i, i < m → b.getD i false = true := by
      intro i hi
      cases h : b.getD i false with
      | true => rfl
      | false =>
        have : i ∈ (List.range m).filter fun i => !b.getD i false := List.mem_filter.2 ⟨List.mem_range.2 hi, by simp [h]⟩
        rw [List.eq_nil_of_length_eq_zero hc] at this
        cases this
    have hex : ∀ i, i < m → ∃ v, (∀ o t, l[i]? = some o → o.dst = some t → a.tmps[t]? = some v) ∧ Post i v w := by
      intro i hi
      obtain ⟨v, h1, h2⟩ := I.done i l[i] (List.getElem?_eq_getElem (by omega)) (hall i hi)
      refine ⟨v, fun o t ho ht => h1 t ?_, h2⟩
      rw [List.getElem?_eq_getElem (show i < l.length by omega)] at ho
      rw [Option.some.inj ho]
      exact ht
    obtain ⟨vs, hvs⟩ := choose_all undef m hex
    have hnd2 : ((l.take m).filterMap (·.dst)).Nodup := by
      have := hnd
      rw [← List.take_append_drop m l, List.filterMap_append] at this
      exact (List.nodup_append.1 this).1
    have e : a = fills a0 vs 0 (l.take m) := by
      refine act_ext (Array.ext_getElem? fun t => ?_) (by rw [I.defers, fills_defers])
      by_cases ht : ∃ (i : Nat) (o : Oper), i < m ∧ l[i]? = some o ∧ o.dst = some t
      · obtain ⟨i, o, him, ho, hto⟩ := ht
        rw [fills_on vs hto (l.take m) 0 i a0 hnd2 (by rw [List.getElem?_take, if_pos him]; exact ho) (hlt ho hto), (hvs i him).1 o t ho hto, Nat.zero_add]
      · rw [fills_off vs (l.take m) 0 a0 (fun o ho hto => by
          obtain ⟨i, hi⟩ := List.mem_iff_getElem?.1 ho
          have him : i < m := by
            have := (List.getElem?_eq_some_iff.1 hi).1
            rw [List.length_take] at this
            omega
          rw [List.getElem?_take, if_pos him] at hi
          exact ht ⟨i, o, him, hi, hto⟩)]
        refine I.old t (fun i o ho hto => ?_)
        have hil := (List.getElem?_eq_some_iff.1 ho).1
        by_cases him : i < m
        · exact absurd ⟨i, o, him, ho, hto⟩ ht
        · exact hbm i (by omega)
    have hk := hend vs w I.grown (fun i hi => (hvs i hi).2)
    rw [← e] at hk
    have hbe : b = mask l.length m := mask_of hb (fun i hi _ => hall i hi) hbm
    have hsq := wpAny_of_seq (md := .any) (Q' := Q) (l.drop m) m b a w (fun j => by simp [List.getElem?_drop]) (by rw [hbe, List.length_drop]; exact hseq) hk
    rw [List.length_drop] at hsq
    rw [Nat.zero_add]
    exact hsq
  | succ fuel ih =>
    intro b a w hb hbm hc I
    have hex : ∃ i, i < m ∧ b.getD i false = false := by
      cases hf : (List.range m).filter (fun i => !b.getD i false) with
      | nil => rw [hf] at hc; simp at hc
      | cons x r =>
        have hx : x ∈ (List.range m).filter (fun i => !b.getD i false) := by rw [hf]; exact List.mem_cons_self
        rw [List.mem_filter, List.mem_range] at hx
        exact ⟨x, hx.1, by simpa using hx.2⟩
    rw [show fuel + 1 + (l.length - m) = (fuel + (l.length - m)) + 1 by omega]
    refine ⟨fun hr => ?_, fun i hi => ?_⟩
    · exfalso
      have hmin : ∀ k i, i ≤ k → i < m → b.getD i false = false → ∃ j, j < m ∧ b.getD j false = false ∧ ∀ q, q < j → b.getD q false = true := by
        intro k
        induction k with
        | zero =>
          intro i h1 h2 h3
          exact ⟨i, h2, h3, fun q hq => by omega⟩
        | succ k ihk =>
          intro i h1 h2 h3
          by_cases hlow : ∃ j, j < i ∧ b.getD j false = false
          · obtain ⟨j, h4, h5⟩ := hlow
            exact ihk j (by omega) (by omega) h5
          · refine ⟨i, h2, h3, fun q hq => ?_⟩
            cases h : b.getD q false with
            | true => rfl
            | false => exact absurd ⟨q, hq, h⟩ hlow
      obtain ⟨i0, h1, h2⟩ := hex
      obtain ⟨i, h3, h4, h5⟩ := hmin i0 i0 (Nat.le_refl _) h1 h2
      have ho := List.getElem?_eq_getElem (show i < l.length by omega)
      have hb' : b.getD i true = false := by
        simp only [Array.getD_eq_getD_getElem?] at h4 ⊢
        have : b[i]? = some b[i] := Array.getElem?_eq_getElem (by omega)
        rw [this] at h4 ⊢
        simpa using h4
      have := mem_ready ho hb' (fun j hj => h5 j (down_lt hd ho hj))
      rw [hr] at this
      cases this
    · obtain ⟨o, ho, h1, h2⟩ := ready_mem hi
      have hil := (List.getElem?_eq_some_iff.1 ho).1
      have hbf := getD_both h1
      have him : i < m := by
        by_cases him : i < m
        · exact him
        · obtain ⟨j, hj, hjb⟩ := hex
          have hinv : HeadInv .any l.toArray m b := ⟨by simpa using hb, fun q oq hq hlq e he hbn => I.shut q oq (by simpa using hq) hlq e.on (by
            unfold needs
            exact Array.any_eq_true'.2 ⟨e, he, by simp [hbn]⟩), fun t ht htl => getD_in (by rw [hb]; simpa using htl) (hbm t ht)⟩
          exact absurd hi (tail_waits hsink hchain (by simpa using hml) hinv _ j rfl hj (getD_in (by omega) hjb) i (by omega))
      have hK : ∀ v w', Soft w0.heap.size w w' → Post i v w' → wpAny P .any l.toArray Q (fuel + (l.length - m)) (b.setIfInBounds i true) (a.put o.dst v) w' := by
        intro v w' hg hp
        refine ih _ _ _ (by simpa using hb) (fun t ht => by rw [set_ne (by omega)]; exact hbm t ht) ?_ (inv_nextS hn hst hb I ho hbf h2 hg hp)
        have := filter_less b i hbf (by omega) (List.range m) List.nodup_range (List.mem_range.2 him)
        omega
      have h3 := hs i (List.mem_range.2 him) o ho a w (inv_atS hst I ho hbf h2) _ hK
      unfold wpOp
      have e : l.toArray[i]? = some o := by simpa using ho
      rw [e]
      simp only []
      split
      · rename_i hw
        rw [if_pos hw] at h3
        exact .inl h3
      · rename_i hw
        rw [if_neg hw] at h3
        exact h3
def StepOS (P : Program) (l : List Oper) (a0 : Act) (w0 : World) (Post : Nat → Value → World → Prop) (Q : Exit → Act → World → Prop) (i : Nat) (o : Oper) : Prop :=
  ∀ a w, At l a0 w0 Post i o a w → ∀ K : Act → World → Prop, (∀ v w', Soft w0.heap.size w w' → Post i v w' → K (a.put o.dst v) w') →
    if Region.wanted o (yielded l.toArray a.tmps) = true then Oper.wp P o a w K Q else K (a.put o.dst undef) w
def StepsS (P : Program) (l : List Oper) (a0 : Act) (w0 : World) (Post : Nat → Value → World → Prop) (Q : Exit → Act → World → Prop) : List Oper → Nat → Prop
  | [], _ => True
  | o :: r, i => StepOS P l a0 w0 Post Q i o ∧ StepsS P l a0 w0 Post Q r (i + 1)
theorem stepsS_cons {o : Oper} {r : List Oper} {i : Nat} (h : StepOS P l a0 w0 Post Q i o) (hs : StepsS P l a0 w0 Post Q r (i + 1)) : StepsS P l a0 w0 Post Q (o :: r) i := ⟨h, hs⟩
theorem stepsS_nil {i : Nat} : StepsS P l a0 w0 Post Q [] i := trivial
theorem stepsS_get : ∀ {r : List Oper} {i k : Nat} {o : Oper}, StepsS P l a0 w0 Post Q r i → r[k]? = some o → StepOS P l a0 w0 Post Q (i + k) o
  | [], _, _, _, _, h => by simp at h
  | x :: r, i, 0, o, hs, h => by
    have e : x = o := by simpa using h
    subst e
    exact hs.1
  | x :: r, i, k + 1, o, hs, h => by
    have := stepsS_get (i := i + 1) (k := k) hs.2 (by simpa using h)
    rwa [show i + 1 + k = i + (k + 1) by omega] at this
def StableS (B : Nat) (p : Value → World → Prop) : Prop := ∀ v w w', Soft B w w' → p v w → p v w'
def AllStS (B : Nat) : List (Value → World → Prop) → Prop
  | [] => True
  | p :: r => StableS B p ∧ AllStS B r
theorem allstS_nil {B : Nat} : AllStS B [] := trivial
theorem allstS_cons {B : Nat} {p : Value → World → Prop} {r : List (Value → World → Prop)} (h : StableS B p) (hr : AllStS B r) : AllStS B (p :: r) := ⟨h, hr⟩
theorem posts_stableS {B : Nat} : ∀ {L : List (Value → World → Prop)}, AllStS B L → ∀ i v w w', Soft B w w' → Posts L i v w → Posts L i v w'
  | [], _, i, v, w, w', _, _ => by simp [Posts]
  | p :: r, h, 0, v, w, w', hb, hp => h.1 v w w' hb hp
  | p :: r, h, i + 1, v, w, w', hb, hp => posts_stableS h.2 i v w w' hb hp
theorem stS_is {B : Nat} {V : Value} : StableS B (Is V) := fun _ _ _ _ h => h
theorem stS_row {B : Nat} {k : IntKind} {xs : List Int} : StableS B (Row (Kd.int k) xs) := by
  rintro v w w' hb ⟨A, c, h1, h2, h3, h4, h5⟩
  refine ⟨A, c, h1, h2, h3, h4, fun hn => ?_⟩
  obtain ⟨ad, e, hc⟩ := h5 hn
  refine ⟨ad, e, fun j p hj => ?_⟩
  obtain ⟨cs, hs, hr, hcell⟩ := hc j p hj
  exact ⟨cs, hs, hr, fun i u hu => hb.cell _ _ (hcell i u hu)⟩
def LitB (B : Nat) (cs : Array Value) (t : TypeId) (n : Nat) : Value → World → Prop := fun v w => ∃ g fr, B ≤ g ∧ v = .slice (some ⟨g, 0, none⟩) n n ∧ w.heap[g]? = some (Obj.cells cs t fr)
theorem stS_lit {B : Nat} {cs : Array Value} {t : TypeId} {n : Nat} : StableS B (LitB B cs t n) := by
  rintro v w w' hb ⟨g, fr, h1, h2, h3⟩
  obtain ⟨fr', h4⟩ := hb.cells _ _ _ _ h3
  exact ⟨g, fr', h1, h2, h4⟩
theorem stepS_of {i : Nat} {o : Oper} (h : StepO P l a0 w0 Post Q i o) : StepOS P l a0 w0 Post Q i o :=
  fun a w hat K hK => h a w hat K (fun v w' hb hp => hK v w' (soft_below hat.grown.size hb) hp)
theorem stepS_run {i : Nat} {o : Oper} (hgd : o.guard = none) (ds : List (Nat × Tmp)) (os : List Tmp) (hc : depsB l i o ds os = true)
    (hr : ∀ a w, Below w0.heap.size w0 w → Found Post a0 a w ds os → ∃ v w', (execOp a.eval o).run P w = .ok (.value v) w' ∧ Soft w0.heap.size w w' ∧ Post i v w') : StepOS P l a0 w0 Post Q i o := by
  intro a w hat K hK
  have hw : Region.wanted o (yielded l.toArray a.tmps) = true := by simp [Region.wanted, hgd]
  rw [if_pos hw]
  obtain ⟨v, w', h1, h2, h3⟩ := hr a w hat.grown (found_of hat hc)
  unfold Oper.wp
  rw [h1, Oper.upon_value]
  exact hK v w' h2 h3
theorem run_convert_mark (w : World) (t e : TypeId) (cs : Array Value) (fr : Nat × Nat) (g n c : Nat) (ht : P.underlying t = some (.slice e)) (he : P.underlying e = some (.int .u8)) (hg : w.heap[g]? = some (Obj.cells cs e fr)) :
    (convert t t (.slice (some ⟨g, 0, none⟩) n c)).run P w = .ok (.slice (some ⟨g, 0, none⟩) n c) (w.freeze ⟨g, cs.size, none⟩ 1) := by
  have hsh : w.shape? g = some (e, cs.size) := by
    unfold World.shape?
    rw [hg]
  simp [convert, run_underlying ht, run_underlying he, markStringish, hsh]
theorem lit_row {k : IntKind} {w : World} {g : Nat} {t : TypeId} {fr : Nat × Nat} (xs : List Int) (h : w.heap[g]? = some (Obj.cells (nums k xs).toArray t fr)) (hm : xs.length ≤ 9223372036854775807) : Row (Kd.int k) xs (.slice (some ⟨g, 0, none⟩) xs.length xs.length) w := by
  refine ⟨_, _, rfl, Nat.le_refl _, rfl, hm, fun _ => ⟨_, rfl, fun j p hj => ⟨[.int k p], rfl, rfl, fun i u hi => ?_⟩⟩⟩
  have hi0 : i = 0 := by
    have := (List.getElem?_eq_some_iff.1 hi).1
    simpa using this
  subst hi0
  have hu : u = .int k p := by simpa using hi.symm
  subst hu
  have ha : (⟨g, 0, none⟩ : Addr).add (j * (Kd.int k).sz + 0) = ⟨g, j, none⟩ := by
    show (⟨g, 0, none⟩ : Addr).add (j * 1 + 0) = _
    rw [add_plain]
    simp
  rw [ha]
  simp only [World.cell?, h]
  simp [nums, hj]
theorem wp_region_grow_tailS {id : Nat} (m : Nat) (L : List (Value → World → Prop)) (hm : P.follows .mixedOrders = true) (hl : tailB l m = true) (hd : downB l = true) (hn : dstsB l a0.tmps.size = true) (hst : AllStS w0.heap.size L) (hs : StepsS P l a0 w0 (Posts L) Q (l.take m) 0)
    (hend : ∀ w, Below w0.heap.size w0 w → Ends (Posts L) (fun a => wpList P l.toArray Q (l.drop m) a w) w (l.take m) 0 a0) : (Code.region id l.toArray true).wp P Q a0 w0 := by
  refine wp_region_any hm ?_
  have hl0 := hl
  unfold tailB at hl0
  simp only [Bool.and_eq_true, decide_eq_true_eq] at hl0
  have hlen := hl0.1
  have hz : ∀ i d, i < l.length → (Array.replicate l.toArray.size false).getD i d = false := by
    intro i d hi
    rw [Array.getD_eq_getD_getElem?, Array.getElem?_replicate, if_pos (by simpa using hi)]
    rfl
  have hz2 : ∀ i, (Array.replicate l.toArray.size false).getD i false = false := by
    intro i
    by_cases hi : i < l.length
    · exact hz i false hi
    · rw [Array.getD_eq_getD_getElem?, Array.getElem?_eq_none (by simpa using hi)]
      rfl
  have e0 : l.toArray.size = m + (l.length - m) := by simp; omega
  rw [e0]
  rw [e0] at hz hz2
  have htl : (l.take m).length = m := by rw [List.length_take]; omega
  refine grow_tailS hl hd hn (posts_stableS hst) (fun i hi o ho => by
    have him := List.mem_range.1 hi
    have := stepsS_get hs (k := i) (o := o) (by rw [List.getElem?_take, if_pos him]; exact ho)
    rwa [Nat.zero_add] at this) (fun vs w hg hp => ends_fills (Q := fun a => wpList P l.toArray Q (l.drop m) a w) vs (l.take m) 0 a0 (hend w hg) (fun k hk => by rw [Nat.zero_add]; exact hp k (by omega))) m _ a0 _ (by simp; omega) (fun t _ => hz2 t) ?_ ⟨(Below.refl _ _).drew, rfl, rfl, fun _ _ => rfl, fun i o _ h => ?_, fun i o _ h => ?_⟩
  · have e : (List.range m).filter (fun i => !(Array.replicate (m + (l.length - m)) false).getD i false) = List.range m := by
      refine List.filter_eq_self.2 (fun i _ => ?_)
      rw [hz2]
      rfl
    rw [e]
    simp
  · rw [hz2] at h
    cases h
  · rw [hz2] at h
    cases h
end
end Go.Proofs.YtknlpjoidjgciaaDoorW.PrintGrow
end
section
namespace Go.Proofs.YtknlpjoidjgciaaDoorW.PrintIno
open Go.RowKit Go.Proofs.YtknlpjoidjgciaaDoorW.PrintWords Go.Proofs.YtknlpjoidjgciaaDoorW.PrintHand Go.Proofs.YtknlpjoidjgciaaDoorW.PrintHx Go.Proofs.YtknlpjoidjgciaaDoorW.PrintLe
set_option linter.unusedVariables false
set_option linter.unusedSimpArgs false
def rng (x lo hi : Int) : Bool := decide (lo ≤ x ∧ x ≤ hi)
theorem rng_of {x lo hi : Int} (h : rng x lo hi = true) : lo ≤ x ∧ x ≤ hi := by simpa [rng] using h
theorem put_zeros (A X : List Int) (p d m at_ sz : Nat) (hA : A.length = p) (hX : X.length = sz) (hm : d + sz ≤ m) (ha : at_ = p + d) : (A ++ List.replicate m 0).take at_ ++ X ++ (A ++ List.replicate m 0).drop (at_ + sz) = (A ++ (List.replicate d 0 ++ X)) ++ List.replicate (m - d - sz) 0 := by
  subst hA
  subst ha
  subst hX
  rw [List.take_append, List.take_of_length_le (by omega), Nat.add_sub_cancel_left, List.take_replicate, Nat.min_eq_left (by omega), List.drop_append, List.drop_eq_nil_of_le (by omega), List.nil_append, List.drop_replicate, show m - (A.length + d + X.length - A.length) = m - d - X.length by omega]
  simp [List.append_assoc]
end Go.Proofs.YtknlpjoidjgciaaDoorW.PrintIno
end
section
namespace Go.Proofs.YtknlpjoidjgciaaDoorW.PrintDec
open Go.RowKit Go.Proofs.YtknlpjoidjgciaaDoorW.PrintWords Go.Proofs.YtknlpjoidjgciaaDoorW.PrintHand Go.Proofs.YtknlpjoidjgciaaDoorW.PrintHx Go.Proofs.YtknlpjoidjgciaaDoorW.PrintLe
set_option linter.unusedVariables false
set_option linter.unusedSimpArgs false
def gcap (l : List Int) : Int := if le l < 18014398509481984 then le l else 4611686018427387904
def rootVals (l : List Int) : List Int := (List.range 12).map fun k => le (seg l (8 + 4 * k) 4)
def rootOf (f : List Int → Int) (l : List Int) : List Int := f (seg l 0 8) :: (rootVals l ++ [le (seg l 56 4), le (seg l 60 4)])
def rootA (l : List Int) : List Int := rootOf gcap l
def rootB (l : List Int) : List Int := rootOf (fun x => wrap64 (le x)) l
theorem rootOf_length (f : List Int → Int) (l : List Int) : (rootOf f l).length = 15 := by simp [rootOf, rootVals]
theorem seg_byt {l : List Int} (h : Byt l) (o m : Nat) : Byt (seg l o m) := (h.drop o).take m
theorem seg_le {l : List Int} (o m : Nat) (h : o + m ≤ l.length) : (seg l o m).length = m := by
  unfold seg
  rw [List.length_take, List.length_drop]
  omega
theorem take_drop (l : List Int) (a b : Nat) : (l.take b).drop a = seg l a (b - a) := by
  unfold seg
  rw [List.drop_take]
theorem le4 {l : List Int} (h : Byt l) (hl : l.length ≤ 4) : 0 ≤ le l ∧ le l < 4294967296 := by
  have h1 := le_nonneg h
  have h2 := le_lt h
  have h3 : (256 : Int) ^ l.length ≤ 256 ^ 4 := p256_le hl
  rw [show (256 : Int) ^ 4 = 4294967296 by decide] at h3
  omega
theorem gcap4 {l : List Int} (h : Byt l) (hl : l.length ≤ 4) : gcap l = le l := by
  have := le4 h hl
  unfold gcap
  rw [if_pos (by omega)]
theorem wrap4 {l : List Int} (h : Byt l) (hl : l.length ≤ 4) : wrap64 (le l) = le l := by
  have := le4 h hl
  unfold wrap64
  omega
theorem rootA_size (l : List Int) : (rootA l).getD 0 0 = gcap (seg l 0 8) := rfl
theorem rootB_size (l : List Int) : (rootB l).getD 0 0 = wrap64 (le (seg l 0 8)) := rfl
def filled (d : List Int) (j : Nat) : List Int := d.take j ++ List.replicate (12 - j) 0
theorem filled_next {d : List Int} (hd : d.length = 12) (j : Nat) (hj : j < 12) (a b c : Int) : (a :: (filled d j ++ [b, c])).set (1 + j) (d.getD j 0) = a :: (filled d (j + 1) ++ [b, c]) := by
  have hl : j < d.length := by omega
  rw [show 1 + j = j + 1 by omega, List.set_cons_succ]
  congr 1
  unfold filled
  rw [List.append_assoc, List.set_append_right _ _ (by rw [List.length_take]; omega), List.length_take, Nat.min_eq_left (by omega), Nat.sub_self, show 12 - j = (12 - (j + 1)) + 1 by omega, List.replicate_succ, List.cons_append, List.set_cons_zero, List.take_succ_eq_append_getElem hl, List.append_assoc, List.append_assoc, List.getD_eq_getElem?_getD, List.getElem?_eq_getElem hl]
  rfl
theorem filled_all {d : List Int} (hd : d.length = 12) : filled d 12 = d := by
  unfold filled
  rw [List.take_of_length_le (by omega)]
  simp
theorem filled_length {d : List Int} (hd : d.length = 12) (j : Nat) (hj : j ≤ 12) (a b c : Int) : (a :: (filled d j ++ [b, c])).length = 15 := by
  simp [filled, hd]
  omega
theorem rootVals_length (l : List Int) : (rootVals l).length = 12 := by simp [rootVals]
theorem rootVals_get (l : List Int) (j : Nat) (hj : j < 12) : (rootVals l).getD j 0 = le (seg l (8 + 4 * j) 4) := by
  simp [rootVals, hj]
end Go.Proofs.YtknlpjoidjgciaaDoorW.PrintDec
namespace Go.Proofs.YtknlpjoidjgciaaDoorW.PrintDec
open Go.RowKit Go.Proofs.YtknlpjoidjgciaaDoorW.PrintWords Go.Proofs.YtknlpjoidjgciaaDoorW.PrintHand Go.Proofs.YtknlpjoidjgciaaDoorW.PrintHx Go.Proofs.YtknlpjoidjgciaaDoorW.PrintLe
set_option linter.unusedVariables false
set_option linter.unusedSimpArgs false
theorem strOf_list (l : List Int) : (strOfNums l).toList = l.map (fun n => UInt8.ofNat n.toNat) := by
  rw [ByteArray.toList_eq]
  simp [strOfNums]
theorem byte_inj {x y : Int} (hx : 0 ≤ x ∧ x ≤ 255) (hy : 0 ≤ y ∧ y ≤ 255) (h : UInt8.ofNat x.toNat = UInt8.ofNat y.toNat) : x = y := by
  have h2 := congrArg UInt8.toNat h
  rw [UInt8.toNat_ofNat', UInt8.toNat_ofNat'] at h2
  omega
theorem map_inj : ∀ {a b : List Int}, Byt a → Byt b → a.map (fun n => UInt8.ofNat n.toNat) = b.map (fun n => UInt8.ofNat n.toNat) → a = b
  | [], [], _, _, _ => rfl
  | [], _ :: _, _, _, h => by simp at h
  | _ :: _, [], _, _, h => by simp at h
  | x :: a, y :: b, ha, hb, h => by
    simp only [List.map_cons, List.cons.injEq] at h
    rw [byte_inj (ha x (by simp)) (hb y (by simp)) h.1, map_inj ha.tail hb.tail h.2]
theorem strOf_eq {a b : List Int} (ha : Byt a) (hb : Byt b) : ((strOfNums a).toList == (strOfNums b).toList) = decide (a = b) := by
  rw [strOf_list, strOf_list]
  by_cases h : a = b
  · subst h
    simp
  · rw [decide_eq_false h, beq_eq_false_iff_ne]
    exact fun e => h (map_inj ha hb e)
theorem flat4_byt : ∀ (l : List Int), Byt (flat4 l)
  | [] => fun x hx => by simp [flat4] at hx
  | v :: vs => fun x hx => by
    simp only [flat4] at hx
    rcases List.mem_append.1 hx with h | h
    · exact leB_byt v 4 x h
    · exact flat4_byt vs x h
theorem rootBytes_byt (a : List Int) : Byt (rootBytes a) := fun x hx => by
  unfold rootBytes at hx
  rcases List.mem_append.1 hx with h | h
  · exact leB_byt _ 8 x h
  · exact flat4_byt _ x h
end Go.Proofs.YtknlpjoidjgciaaDoorW.PrintDec
end
section
namespace Go.Proofs.YtknlpjoidjgciaaDoorW.PrintDec
open Go.RowKit Go.Proofs.YtknlpjoidjgciaaDoorW.PrintWords Go.Proofs.YtknlpjoidjgciaaDoorW.PrintHand Go.Proofs.YtknlpjoidjgciaaDoorW.PrintHx Go.Proofs.YtknlpjoidjgciaaDoorW.PrintLe Go.Proofs.YtknlpjoidjgciaaDoorW.PrintIno
set_option linter.unusedVariables false
set_option linter.unusedSimpArgs false
theorem le8 {l : List Int} (h : Byt l) (hl : l.length ≤ 8) : 0 ≤ le l ∧ le l < 18446744073709551616 := by
  have h1 := le_nonneg h
  have h2 := le_lt h
  have h3 : (256 : Int) ^ l.length ≤ 256 ^ 8 := p256_le hl
  rw [show (256 : Int) ^ 8 = 18446744073709551616 by decide] at h3
  omega
theorem cap_same {l : List Int} (h : Byt l) (hl : l.length ≤ 8) (hs : gcap l ≤ 1099511627776) : gcap l = wrap64 (le l) := by
  have := le8 h hl
  unfold gcap at hs ⊢
  split at hs
  · rw [if_pos (by omega)]
    unfold wrap64
    omega
  · omega
theorem wrap_same {l : List Int} (h : Byt l) (hl : l.length ≤ 8) (h0 : 0 ≤ wrap64 (le l)) (hs : wrap64 (le l) ≤ 1099511627776) : gcap l = wrap64 (le l) := by
  have := le8 h hl
  have e : wrap64 (le l) = le l := by unfold wrap64 at h0 hs ⊢; omega
  rw [e] at hs ⊢
  unfold gcap
  rw [if_pos (by omega)]
theorem root_eq {l : List Int} (h : gcap (seg l 0 8) = wrap64 (le (seg l 0 8))) : rootA l = rootB l := by
  unfold rootA rootB rootOf
  rw [h]
theorem root_sameA {l : List Int} (h : Byt l) (hl : l.length = 64) (hg : rootGood (rootA l) = true) : rootA l = rootB l := by
  by_cases hs : gcap (seg l 0 8) ≤ 1099511627776
  · exact root_eq (cap_same (seg_byt h _ _) (by rw [seg_le _ _ (by omega)]; decide) hs)
  · have : rootGood (rootA l) = false := rootGood_high (by rw [rootA_size]; omega)
    rw [this] at hg
    cases hg
theorem root_sameB {l : List Int} (h : Byt l) (hl : l.length = 64) (hg : rootGood (rootB l) = true) : rootA l = rootB l := by
  by_cases h0 : 0 ≤ wrap64 (le (seg l 0 8))
  · by_cases hs : wrap64 (le (seg l 0 8)) ≤ 1099511627776
    · exact root_eq (wrap_same (seg_byt h _ _) (by rw [seg_le _ _ (by omega)]; decide) h0 hs)
    · have : rootGood (rootB l) = false := rootGood_high (by rw [rootB_size]; omega)
      rw [this] at hg
      cases hg
  · have : rootGood (rootB l) = false := rootGood_low (by rw [rootB_size]; omega)
    rw [this] at hg
    cases hg
theorem le_one (x : Int) : le [x] = x := by simp [le]
end Go.Proofs.YtknlpjoidjgciaaDoorW.PrintDec
namespace Go.Proofs.YtknlpjoidjgciaaDoorW.PrintDec
open Go.RowKit Go.Proofs.YtknlpjoidjgciaaDoorW.PrintWords Go.Proofs.YtknlpjoidjgciaaDoorW.PrintHand Go.Proofs.YtknlpjoidjgciaaDoorW.PrintHx Go.Proofs.YtknlpjoidjgciaaDoorW.PrintLe
set_option linter.unusedVariables false
theorem seg_seg (l : List Int) (a n o m : Nat) (h : o + m ≤ n) : seg (seg l a n) o m = seg (l.drop a) o m := by
  unfold seg
  rw [List.drop_take, List.take_take, Nat.min_eq_left (by omega)]
theorem rootOf_part (f : List Int → Int) (l : List Int) (a : Nat) : rootOf f (seg l a 64) = rootOf f (l.drop a) := by
  have e : rootVals (seg l a 64) = rootVals (l.drop a) := by
    unfold rootVals
    refine List.map_congr_left fun k hk => ?_
    have := List.mem_range.1 hk
    rw [seg_seg l a 64 _ _ (by omega)]
  unfold rootOf
  rw [e, seg_seg l a 64 _ _ (by omega), seg_seg l a 64 _ _ (by omega), seg_seg l a 64 _ _ (by omega)]
end Go.Proofs.YtknlpjoidjgciaaDoorW.PrintDec
namespace Go.Proofs.YtknlpjoidjgciaaDoorW.PrintTabl
open Go.RowKit Go.Proofs.YtknlpjoidjgciaaDoorW.PrintWords Go.Proofs.YtknlpjoidjgciaaDoorW.PrintHand Go.Proofs.YtknlpjoidjgciaaDoorW.PrintHx Go.Proofs.YtknlpjoidjgciaaDoorW.PrintLe Go.Proofs.YtknlpjoidjgciaaDoorW.PrintIno
set_option linter.unusedVariables false
end Go.Proofs.YtknlpjoidjgciaaDoorW.PrintTabl
end
section
namespace Go.Proofs.YtknlpjoidjgciaaDoorW.PrintRaw
open Go.RowKit Go.Proofs.YtknlpjoidjgciaaDoorW.PrintWords Go.Proofs.YtknlpjoidjgciaaDoorW.PrintHand Go.Proofs.YtknlpjoidjgciaaDoorW.PrintHx Go.Proofs.YtknlpjoidjgciaaDoorW.PrintLe
set_option linter.unusedVariables false
structure MT (g : Nat) (w w' : World) : Prop where
  os : w'.os = w.os
  tape : w'.tape = w.tape
  output : w'.output = w.output
  size : w.heap.size ≤ w'.heap.size
  other : ∀ j, j < w.heap.size → j ≠ g → w'.heap[j]? = w.heap[j]?
theorem MT.refl (g : Nat) (w : World) : MT g w w := ⟨rfl, rfl, rfl, Nat.le_refl _, fun _ _ _ => rfl⟩
theorem MT.touch {g : Nat} {a b c : World} (h : MT g a b) (t : PrintHand.Touch g b c) : MT g a c := ⟨t.os.trans h.os, t.tape.trans h.tape, t.output.trans h.output, by rw [t.size]; exact h.size, fun j hj hg => (t.other j hg).trans (h.other j hj hg)⟩
theorem MT.then_ {g : Nat} {a b c : World} (h : MT g a b) (t : Below b.heap.size b c) : MT g a c := ⟨t.os.trans h.os, t.tape.trans h.tape, t.output.trans h.output, Nat.le_trans h.size t.size, fun j hj hg => (t.block j (Nat.lt_of_lt_of_le hj h.size)).trans (h.other j hj hg)⟩
theorem MT.trans {g : Nat} {a b c : World} (h : MT g a b) (t : MT g b c) : MT g a c := ⟨t.os.trans h.os, t.tape.trans h.tape, t.output.trans h.output, Nat.le_trans h.size t.size, fun j hj hg => (t.other j (Nat.lt_of_lt_of_le hj h.size) hg).trans (h.other j hj hg)⟩
theorem MT.of_below {g : Nat} {a b : World} (h : Below a.heap.size a b) : MT g a b := (MT.refl g a).then_ h
theorem MT.kept {g : Nat} {w w' : World} (h : MT g w w') : Kept w w' (fun k => k = g) := ⟨h.size, h.other⟩
theorem MT.below {B g : Nat} {a w w' : World} (h : MT g w w') (hB : Below B a w) (hs : B ≤ w.heap.size) (hg : B ≤ g) : Below B a w' :=
  below_kept hB h.kept h.os h.tape h.output hs (fun k hk => by have h_ : k = g := hk; omega)
theorem MT.blk {g k : Nat} {w w' : World} {o : Obj} (h : MT g w w') (hk : k ≠ g) (ho : w.heap[k]? = some o) : w'.heap[k]? = some o := (h.other k (blk_lt ho) hk).trans ho
theorem MT.R {α : Type} {d : Kd α} {e B g : Nat} {ok : Nat → Prop} {w w' : World} {v : Value} {xs : List α} (h : MT g w w') (hR : d.R e w B ok v xs) (hok : ∀ k, ok k → k ≠ g) : d.R e w' B ok v xs := Kd.R_kept hR h.kept (fun k hk e_ => hok k hk e_)
section
variable {P : Program} {ops : Array Oper} {rest : List Oper} {o : Oper} {a : Act} {w : World} {Q : Exit → Act → World → Prop}
theorem st_num (hgd : o.guard = none) (hN : o.dst = none) (ty : TypeId) (p x : Operand) (ho : o.op = .store ty p x) (g off : Nat) (k : IntKind) (v : Int) (hp : a.eval p = .pointer (some ⟨g, off, none⟩)) (hx : a.eval x = .int k v)
    (ht : (P.info? ty).map (·.size) = some 1) {t : TypeId} {L : List Int} (hg : w.heap[g]? = some (.cells (nums k L).toArray t (0, 0))) (hn : off < L.length)
    (h : ∀ w', PrintHand.Touch g w w' → w'.heap[g]? = some (.cells (nums k (L.set off v)).toArray t (0, 0)) → wpList P ops Q rest a w') : wpList P ops Q (o :: rest) a w :=
  wpList_st hgd hN ty p x ho g off hp (.int k v) hx [.int k v] (nums k (L.set off v)).toArray rfl ht rfl hg (by simp [nums]; omega)
    (by
      rw [List.set_eq_take_append_cons_drop, if_pos hn]
      simp [nums, List.map_take, List.map_drop]) h
theorem make_num (hgd : o.guard = none) {N : Tmp} (hd : o.dst = some N) (n e : Nat) (k : IntKind) {s : Nat} (hs : Aside0 (w.heap.size = s))
    (hrun : (execOp a.eval o).run P w = .ok (.value (.slice (some ⟨w.heap.size, 0, none⟩) n n)) (w.alloc (.cells (nums k (List.replicate n 0)).toArray e)))
    (h : ∀ w' s', s < s' → Aside0 (w'.heap.size = s') → Below w.heap.size w w' → w'.heap[s]? = some (.cells (nums k (List.replicate n 0)).toArray e (0, 0)) → wpList P ops Q rest (a.put (some N) (.slice (some ⟨s, 0, none⟩) n n)) w') : wpList P ops Q (o :: rest) a w := by
  have e_ := hs.out
  subst e_
  refine wpList_plain hgd fun K hK => ?_
  unfold Oper.wp
  rw [hrun, Oper.upon_value, hd]
  exact hK _ _ (h _ (w.heap.size + 1) (by omega) ⟨World.size_alloc _ _⟩ (below_alloc (Below.refl _ _) _) (blk_new _ _))
end
theorem reps_nums {k : IntKind} {w : World} {base : Nat} {ok : Nat → Prop} (xs : List Int) : Reps ((Kd.int k).M w base ok) 1 xs (nums k xs) := by
  refine ⟨by simp [nums], fun j p hj => ?_⟩
  show _ = [Value.int k p]
  rw [Nat.mul_one]
  have e : (nums k xs)[j]? = some (.int k p) := by simp [nums, hj]
  have hjn : j < (nums k xs).length := (List.getElem?_eq_some_iff.1 e).1
  rw [List.drop_eq_getElem_cons hjn, List.take_succ_cons, List.take_zero]
  rw [List.getElem?_eq_getElem hjn] at e
  rw [Option.some.inj e]
theorem own_blk {k : IntKind} {w : World} {g e B : Nat} {L : List Int} (hg : w.heap[g]? = some (.cells (nums k L).toArray e (0, 0))) (hB : B ≤ g) (hl : L.length ≤ 1048576) : (Kd.int k).R e w B (fun _ => True) (.slice (some ⟨g, 0, none⟩) L.length L.length) L :=
  ⟨fun _ _ => trivial, nums k L, ⟨by simp [nums, Kd.int, Kd.scalar], .inr ⟨g, L.length, (nums k L).toArray, rfl, hB, hg, Nat.le_refl _, by simp only [maxLen]; omega, by simp [nums, Kd.int, Kd.scalar], List.take_of_length_le (by simp [nums, Kd.int, Kd.scalar])⟩⟩, reps_nums L⟩
theorem byte_at (v : Int) (j : Nat) (hj : j < 8) : IntKind.u64.wrap v / 2 ^ min (wrap64 (8 * (j : Int))).toNat 64 % 256 = v / 256 ^ j % 256 := by
  rw [show wrap64 (8 * (j : Int)) = ((8 * j : Nat) : Int) by unfold wrap64; omega, Int.toNat_natCast, Nat.min_eq_left (by omega), Int.pow_mul, show (2 : Int) ^ 8 = 256 by decide, show IntKind.u64.wrap v = v % 18446744073709551616 by simp [IntKind.wrap, IntKind.bits, IntKind.signed]]
  have hi : j = 0 ∨ j = 1 ∨ j = 2 ∨ j = 3 ∨ j = 4 ∨ j = 5 ∨ j = 6 ∨ j = 7 := by omega
  rcases hi with rfl | rfl | rfl | rfl | rfl | rfl | rfl | rfl <;> (simp only [Int.reducePow]; omega)
theorem set_next {L M : List Int} {p j : Nat} {v : Int} (hM : M = L.take p ++ leB v j ++ L.drop (p + j)) (hlt : p + j < L.length) : M.set (p + j) (v / 256 ^ j % 256) = L.take p ++ leB v (j + 1) ++ L.drop (p + (j + 1)) := by
  have hl : (L.take p ++ leB v j).length = p + j := by rw [List.length_append, List.length_take, leB_length]; omega
  rw [hM, List.set_append_right _ _ (by omega), hl, Nat.sub_self, List.drop_eq_getElem_cons hlt, List.set_cons_zero, leB_snoc, List.append_assoc, List.append_assoc, List.append_assoc]
  rfl
end Go.Proofs.YtknlpjoidjgciaaDoorW.PrintRaw
end
section
namespace Go.Proofs.YtknlpjoidjgciaaDoorW.PrintTab2
open Go.RowKit Go.Proofs.YtknlpjoidjgciaaDoorW.PrintWords Go.Proofs.YtknlpjoidjgciaaDoorW.PrintHand Go.Proofs.YtknlpjoidjgciaaDoorW.PrintHx Go.Proofs.YtknlpjoidjgciaaDoorW.PrintLe Go.Proofs.YtknlpjoidjgciaaDoorW.PrintIno Go.Proofs.YtknlpjoidjgciaaDoorW.PrintRaw
set_option linter.unusedVariables false
set_option linter.unusedSimpArgs false
section
variable {P : Program} {ops : Array Oper} {rest : List Oper} {o : Oper} {a : Act} {w : World} {Q : Exit → Act → World → Prop}
theorem ungd (hw : Region.wanted o (yielded ops a.tmps) = true) (h : wpList P ops Q ({ o with guard := none } :: rest) a w) : wpList P ops Q (o :: rest) a w := by
  unfold wpList at h ⊢
  rw [if_pos hw]
  rw [if_pos (by rfl)] at h
  cases o
  exact h
theorem hx_addn (hgd : o.guard = none) (t : TypeId) (x y : Operand) (ho : o.op = .binOp .add t x y t) (p q : Nat) (hx : a.eval x = .int .i64 ((p : Nat) : Int)) (hy : a.eval y = .int .i64 ((q : Nat) : Int)) (hk : p + q < 9223372036854775807)
    (h : ∀ r : Nat, Aside0 (r = p + q) → wpList P ops Q rest (a.put o.dst (.int .i64 ((r : Nat) : Int))) w) : wpList P ops Q (o :: rest) a w := by
  refine wpList_plain hgd fun K hK => ?_
  have e : IntKind.i64.wrap ((p : Int) + (q : Int)) = ((p + q : Nat) : Int) := by
    simp [IntKind.wrap, IntKind.bits, IntKind.signed]
    omega
  have hr : (binOp .add t (.int .i64 (p : Int)) (.int .i64 (q : Int))).run P w = .ok (.int .i64 ((p + q : Nat) : Int)) w := by
    rw [← e]
    simp [binOp, Op.intArith]
  have hg : (eqGuard .add t x y (.int .i64 (p : Int)) (.int .i64 (q : Int))).run P w = .ok () w := by simp [eqGuard]
  unfold Oper.wp execOp
  simp only [ho, hx, hy, Sem.run_bind, hg, hr, Result.andThen_ok, Sem.run_pure, Oper.upon_value]
  exact hK _ _ (h _ ⟨rfl⟩)
theorem cp_num (hgd : o.guard = none) (d s : Operand) (dT sT : TypeId) (ho : o.op = .call { callee := .builtin .copy, args := #[d, s], argTypes := #[dT, sT] }) (elem : TypeId) (hu : P.underlying dT = some (.slice elem)) (hsz : (P.info? elem).map (·.size) = some 1)
    (g off dLen dCap : Nat) (A : Option Addr) (c : Nat) (X L : List Int) {t : TypeId} (hd : a.eval d = .slice (some ⟨g, off, none⟩) dLen dCap) (hs : a.eval s = .slice A X.length c)
    (hg : w.heap[g]? = some (.cells (nums .u8 L).toArray t (0, 0))) (hpos : 0 < X.length) (hfit : X.length ≤ dLen) (hfit2 : off + X.length ≤ L.length) (HX : Kd.C (Kd.int .u8) w A X.length X)
    (h : ∀ w', PrintHand.Touch g w w' → w'.heap[g]? = some (.cells (nums .u8 (L.take off ++ X ++ L.drop (off + X.length))).toArray t (0, 0)) → wpList P ops Q rest (a.put o.dst (.int .i64 ((X.length : Nat) : Int))) w') : wpList P ops Q (o :: rest) a w := by
  have hR := Kd.reads_of_C (enc := Value.int .u8) (d := (0 : Int)) (h1 := fun _ => rfl) HX
  obtain ⟨ad, rfl, hc⟩ := hR.2.2 hpos
  have hl : (nums .u8 X).length = X.length := by simp [nums]
  refine wpList_copy_own hgd d s dT sT ho elem hu hsz g off dLen dCap ad X.length c hd hs _ t hg (nums .u8 X) (by rw [hl]; exact (Nat.min_eq_left hfit).symm) ?_ (by rw [hl]; simpa [nums] using hfit2) ?_ ?_
  · intro j v hv
    have hj : j < X.length := by rw [← hl]; exact (List.getElem?_eq_some_iff.1 hv).1
    have h1 := hc j hj
    rw [h1, ← hv]
    simp [nums, List.getElem?_eq_getElem hj]
  · intro v hv
    obtain ⟨y, _, rfl⟩ := List.mem_map.1 hv
    rfl
  · rw [hl]
    have e : ((nums .u8 L).toArray.toList.take off ++ (nums .u8 X ++ (nums .u8 L).toArray.toList.drop (off + X.length))).toArray = (nums .u8 (L.take off ++ X ++ L.drop (off + X.length))).toArray := by
      simp [nums, List.map_take, List.map_drop]
    rw [e]
    exact h _ ⟨rfl, rfl, rfl, by simp [World.setRow], fun k hk => PrintHand.setRow_other hk⟩ (setRow_same hg)
end
end Go.Proofs.YtknlpjoidjgciaaDoorW.PrintTab2
end
section
namespace Go.Proofs.YtknlpjoidjgciaaDoorW.PrintTab3
open Go.RowKit Go.Proofs.YtknlpjoidjgciaaDoorW.PrintWords Go.Proofs.YtknlpjoidjgciaaDoorW.PrintHand Go.Proofs.YtknlpjoidjgciaaDoorW.PrintHx Go.Proofs.YtknlpjoidjgciaaDoorW.PrintLe Go.Proofs.YtknlpjoidjgciaaDoorW.PrintIno Go.Proofs.YtknlpjoidjgciaaDoorW.PrintDec Go.Proofs.YtknlpjoidjgciaaDoorW.PrintTab2 Go.Proofs.YtknlpjoidjgciaaDoorW.PrintRaw
set_option linter.unusedVariables false
set_option linter.unusedSimpArgs false
section
variable {P : Program} {ops : Array Oper} {rest : List Oper} {o : Oper} {a : Act} {w : World} {Q : Exit → Act → World → Prop}
theorem hx_mid (hgd : o.guard = none) (t e : TypeId) (x lo hi : Operand) (ho : o.op = .slice t x (some lo) (some hi) none) (A : Option Addr) (c : Nat) (l : List Int) (p q : Nat) (hx : a.eval x = .slice A l.length c) (hlo : a.eval lo = .int .i64 ((p : Nat) : Int)) (hhi : a.eval hi = .int .i64 ((q : Nat) : Int))
    (ht : P.underlying t = some (.slice e)) (hsz : (P.info? e).map (·.size) = some 1) (hpq : p ≤ q) (hq : q ≤ l.length) (hc : l.length ≤ c) (HR : Kd.C (Kd.int .u8) w A l.length l)
    (h : ∀ A' c' l', Aside0 (l' = seg l p (q - p)) → Aside0 (Kd.C (Kd.int .u8) w A' l'.length l') → Aside0 (l'.length ≤ c') → wpList P ops Q rest (a.put o.dst (.slice A' l'.length c')) w) : wpList P ops Q (o :: rest) a w := by
  refine wpList_plain hgd fun K hK => ?_
  obtain ⟨i, hi, hs⟩ := Option.map_eq_some_iff.1 hsz
  obtain ⟨A', hcut, hA, hC⟩ := print_mid_of (P := P) (Value.int .u8) 0 t e .i64 .i64 ht hi hs A c l (p : Int) (q : Int) (by omega) (by omega) (by omega) hc
  have hel : P.elem t = e := by simp [Program.elem, ht]
  have hu : P.underlying t = some (.slice (P.elem t)) := by rw [hel]; exact ht
  have hsl := run_sliceAt_slice (P := P) (w := w) t (.slice A l.length c) (some (.int .i64 (p : Int))) (some (.int .i64 (q : Int))) none hu
  have hR := Kd.C_of_reads (h1 := fun _ => rfl) (hA w (Kd.reads_of_C HR))
  have e_ : (l.take (q : Int).toNat).drop (p : Int).toNat = seg l p (q - p) := by
    rw [Int.toNat_natCast, Int.toNat_natCast]
    exact take_drop l p q
  unfold Oper.wp execOp
  simp only [ho, hx, hlo, hhi, Option.map_some, Option.map_none, Sem.run_bind, hsl, hcut, Result.andThen_ok, Sem.run_pure, Oper.upon_value]
  exact hK _ _ (h A' _ _ ⟨e_⟩ ⟨hR⟩ ⟨hC⟩)
theorem hx_ld1 (hgd : o.guard = none) (ty : TypeId) (x : Operand) (ho : o.op = .load ty x) (ad : Addr) (hx : a.eval x = .pointer (some ad)) (v : Value) {d : TypeDesc} (hu : P.underlying ty = some d) (hd : (match d with | .struct _ | .array _ _ => true | _ => false) = false) (hc : w.cell? ad = some v)
    (h : wpList P ops Q rest (a.put o.dst v) w) : wpList P ops Q (o :: rest) a w := by
  refine wpList_plain hgd fun K hK => ?_
  have hagg : (isAgg ty).run P w = .ok false w := by
    unfold isAgg
    rw [Sem.run_bind, run_underlying hu w]
    cases d <;> simp_all
  have hl : (loadVar ty ad).run P w = .ok v w := by
    unfold loadVar
    rw [Sem.run_bind, hagg]
    simp [hc]
  unfold Oper.wp execOp
  simp only [ho, hx, Instr.loadAt, Instr.sureAddr, Sem.run_bind, Sem.run_pure, Result.andThen_ok, hl]
  exact hK _ _ h
end
end Go.Proofs.YtknlpjoidjgciaaDoorW.PrintTab3
end
section
namespace Go.Proofs.YtknlpjoidjgciaaDoorW.PrintFsi
open Go.RowKit Go.Proofs.YtknlpjoidjgciaaDoorW.PrintWords Go.Proofs.YtknlpjoidjgciaaDoorW.PrintHand Go.Proofs.YtknlpjoidjgciaaDoorW.PrintHx Go.Proofs.YtknlpjoidjgciaaDoorW.PrintLe Go.Proofs.YtknlpjoidjgciaaDoorW.PrintIno Go.Proofs.YtknlpjoidjgciaaDoorW.PrintRaw
set_option linter.unusedVariables false
set_option linter.unusedSimpArgs false
section
variable {P : Program} {ops : Array Oper} {rest : List Oper} {o : Oper} {a : Act} {w : World} {Q : Exit → Act → World → Prop}
theorem hx_neqi (hgd : o.guard = none) (t u : TypeId) (x y : Operand) (ho : o.op = .binOp .neq t x y u) (ht : P.underlying t = some (.int .i64)) (p q : Int) (hx : a.eval x = .int .i64 p) (hy : a.eval y = .int .i64 q)
    (b : Bool) (hb : Aside0 ((p != q) = b)) (h : wpList P ops Q rest (a.put o.dst (.bool b)) w) : wpList P ops Q (o :: rest) a w := by
  obtain rfl := hb.out
  refine wpList_plain hgd fun K hK => ?_
  have hg : (eqGuard .neq t x y (.int .i64 p) (.int .i64 q)).run P w = .ok () w := by simp [eqGuard]
  have hr : (binOp .neq t (.int .i64 p) (.int .i64 q)).run P w = .ok (.bool (p != q)) w := by
    have h1 := run_equalIn_int (P := P) w 9999 t .i64 .i64 p q ht
    simp only [binOp]
    simp [Op.equal, Op.maxDepth, h1]
    rfl
  unfold Oper.wp execOp
  simp only [ho, hx, hy, Sem.run_bind, hg, hr, Result.andThen_ok, Sem.run_pure, Oper.upon_value]
  exact hK _ _ h
end
def sizeI (z : Int) : Bool := decide (256 ≤ z) && (decide (z % 128 = 0) && decide (z ≤ 128128))
def fsI (a : List Int) : List Int := seg a 7 15
def fsM (a : List Int) : List Int := seg a 22 15
def fsS (a : List Int) : List Int := seg a 37 31
def fsPtrs (a : List Int) : List Int := (seg (fsI a) 1 14 ++ seg (fsM a) 1 14) ++ fsS a
def fsPtr (n p : Int) : Bool := ptrOk p && decide (p < n)
def fsTop (x0 x1 x2 x3 x4 x5 x6 yi ym : Int) (ri rm al : Bool) : Bool := rng x0 1 1099511627776 && (rng x3 1 1099511627776 && (rng x4 0 1099511627776 && (rng x1 64 2048 && (rng x2 2 (x1 - 1) && (rng x5 0 1000 && ((decide (x6 = 0) || rng x6 8192 65536) && (ri && (rm && (decide (ym = 4 * x1) && (sizeI yi && al))))))))))
def fsGood (a : List Int) : Bool := fsTop (a.getD 0 0) (a.getD 1 0) (a.getD 2 0) (a.getD 3 0) (a.getD 4 0) (a.getD 5 0) (a.getD 6 0) (a.getD 7 0) (a.getD 22 0) (rootGood (fsI a)) (rootGood (fsM a)) ((fsPtrs a).all (fsPtr (a.getD 1 0)))
theorem fsTop_w (x0 x1 x2 x3 x4 x5 x6 yi ym : Int) (ri rm al b0 b1 b2 b3 b4 b5 bz b6 bm b9 : Bool) (h0 : rng x0 1 1099511627776 = b0) (h1 : rng x3 1 1099511627776 = b1) (h2 : rng x4 0 1099511627776 = b2) (h3 : rng x1 64 2048 = b3) (h4 : rng x2 2 (wrap64 (x1 - 1)) = b4) (h5 : rng x5 0 1000 = b5) (hz : (x6 != 0) = bz) (h6 : rng x6 8192 65536 = b6) (hm : (ym != wrap64 (4 * x1)) = bm) (h9 : sizeI yi = b9) :
    fsTop x0 x1 x2 x3 x4 x5 x6 yi ym ri rm al = (b0 && (b1 && (b2 && (b3 && (b4 && (b5 && ((!bz || b6) && (ri && (rm && (!bm && (b9 && al))))))))))) := by
  unfold fsTop
  rw [h0, h1, h2, h3, h5, h6, h9]
  have ez : decide (x6 = 0) = !bz := by
    rw [← hz]
    by_cases c : x6 = 0
    · rw [c]; rfl
    · rw [decide_eq_false c, bne_iff_ne.2 c]; rfl
  rw [ez]
  cases b3 with
  | false => simp
  | true =>
    have hr := rng_of h3
    have e1 : wrap64 (x1 - 1) = x1 - 1 := by unfold wrap64; omega
    have e2 : wrap64 (4 * x1) = 4 * x1 := by unfold wrap64; omega
    rw [e1] at h4
    rw [e2] at hm
    have em : decide (ym = 4 * x1) = !bm := by
      rw [← hm]
      by_cases c : ym = 4 * x1
      · rw [c]; simp
      · rw [decide_eq_false c, bne_iff_ne.2 c]; rfl
    rw [h4, em]
theorem size_i (z : Int) : (if z ≥ 256 then (if (Int.tmod z 128) = 0 then (some (decide (z ≤ 128128))) else (some false)) else (some false)) = some (sizeI z) := by
  unfold sizeI
  by_cases h1 : 256 ≤ z
  · rw [if_pos h1, decide_eq_true h1, Int.tmod_eq_emod_of_nonneg (by omega)]
    by_cases h2 : z % 128 = 0
    · rw [if_pos h2, decide_eq_true h2]; rfl
    · rw [if_neg h2, decide_eq_false h2]; rfl
  · rw [if_neg h1, decide_eq_false h1]; rfl
theorem within_i (x lo hi : Int) : (if x ≥ lo then (some (decide (x ≤ hi))) else (some false)) = some (rng x lo hi) := by
  unfold rng
  by_cases h1 : lo ≤ x
  · rw [if_pos h1]; simp [h1]
  · rw [if_neg h1]; simp [h1]
theorem ptr_i (p : Int) : (if p = 0 then (some true) else (if p ≥ 2 then (some (decide (p < 2048))) else (some false))) = some (ptrOk p) := by
  unfold ptrOk
  by_cases h0 : p = 0
  · rw [if_pos h0]; simp [h0]
  · rw [if_neg h0]
    by_cases h1 : p ≥ 2
    · rw [if_pos h1]; simp [h0, h1]
    · rw [if_neg h1]; simp [h0, h1]
theorem ptr_j (p n : Int) (h : 64 ≤ n ∧ n ≤ 2048) : (if p = 0 then (some true) else (some (rng p 2 (wrap64 (n - 1))))) = some (fsPtr n p) := by
  have e : wrap64 (n - 1) = n - 1 := by unfold wrap64; omega
  rw [e]
  unfold fsPtr ptrOk rng
  by_cases h0 : p = 0
  · rw [if_pos h0]
    simp [h0]
    omega
  · rw [if_neg h0]
    simp only [h0, decide_false, Bool.false_or]
    congr 1
    by_cases h1 : 2 ≤ p
    · by_cases h2 : p < n
      · simp [h1, h2]; omega
      · simp [h1, h2]; omega
    · simp [h1]
theorem fsPtrs_length {a : List Int} (h : a.length = 68) : (fsPtrs a).length = 59 := by
  have h1 : (fsI a).length = 15 := part_len h (by decide)
  have h2 : (fsM a).length = 15 := part_len h (by decide)
  have h3 : (fsS a).length = 31 := part_len h (by decide)
  unfold fsPtrs
  rw [List.length_append, List.length_append, part_len h1 (by decide), part_len h2 (by decide), h3]
theorem all_of {l : List Int} {f : Int → Bool} (h : ∀ j, j < l.length → f (l.getD j 0) = true) : l.all f = true := by
  rw [List.all_eq_true]
  intro x hx
  obtain ⟨j, hj, rfl⟩ := List.getElem_of_mem hx
  have := h j hj
  rw [List.getD_eq_getElem?_getD, List.getElem?_eq_getElem hj] at this
  exact this
theorem all_not {l : List Int} {f : Int → Bool} {j : Nat} (hj : j < l.length) (h : f (l.getD j 0) = false) : l.all f = false := by
  rw [List.all_eq_false]
  refine ⟨l[j], List.getElem_mem hj, ?_⟩
  rw [List.getD_eq_getElem?_getD, List.getElem?_eq_getElem hj] at h
  simpa using h
theorem seg_get (a : List Int) (o m i : Nat) (hi : i < m) : (seg a o m).getD i 0 = a.getD (o + i) 0 := seg_getD a o m i hi
end Go.Proofs.YtknlpjoidjgciaaDoorW.PrintFsi
end
section
namespace Go.Proofs.YtknlpjoidjgciaaDoorW.PrintOrd
open Go Go.RowKit Go.Proofs.YtknlpjoidjgciaaDoorW.PrintWords Go.Proofs.YtknlpjoidjgciaaDoorW.PrintHand Go.Proofs.YtknlpjoidjgciaaDoorW.PrintHx
set_option linter.unusedVariables false
section
variable {P : Program} {ops : Array Oper} {Q : Exit → Act → World → Prop} {a : Act} {w : World}
theorem region_in {id : Nat} (hm : P.follows .mixedOrders = true) {s0 B : Nat} {ob : Obj} {w0 : World} (hg : w.heap[s0]? = some ob) (hB : Below B w0 w)
    (h : ∀ wd, Aside0 (wd.heap[s0]? = some ob) → Aside0 (Below B w0 wd) → wpAny P .any ops Q ops.size (Array.replicate ops.size false) a wd) : (Code.region id ops true).wp P Q a w :=
  wp_region_any hm (h _ ⟨hg⟩ ⟨hB.drew⟩)
theorem op_run {i : Nat} {o : Oper} (hi : ops[i]? = some o) (hgd : o.guard = none) {K : Act → World → Prop} (v : Value) {w' : World} (hrun : (execOp a.eval o).run P w = .ok (.value v) w') (h : K (a.put o.dst v) w') : wpOp P ops Q i K a w := by
  unfold wpOp
  simp only [hi]
  have hw : Region.wanted o (yielded ops a.tmps) = true := by simp [Region.wanted, hgd]
  rw [if_pos hw]
  refine .inl ?_
  unfold Oper.wp
  rw [hrun, Oper.upon_value]
  exact h
theorem op_call {i : Nat} {o : Oper} (hi : ops[i]? = some o) (hgd : o.guard = none) {K : Act → World → Prop} {f : FuncId} {fn : Func} {ags : Array Operand} {ts : Array TypeId} (hf : P.funcs[f]? = some fn) (hname : (fn.name == "runtime.NumGoroutine") = false) (hb : fn.body.isSome = true)
    (hop : o.op = .call { callee := .value (.func f), args := ags, argTypes := ts }) (args : Array Value) (hargs : ags.map a.eval = args)
    (h : Calls P f args w fun e w' => ∃ v, e = .returned v ∧ K (a.put o.dst v) w') : wpOp P ops Q i K a w := by
  unfold wpOp
  simp only [hi]
  have hw : Region.wanted o (yielded ops a.tmps) = true := by simp [Region.wanted, hgd]
  rw [if_pos hw]
  refine .inl ?_
  have he := PrintLast.enters_ hf hname hb args w
  have hrun : (execOp a.eval o).run P w = .ok (.enter f args) w := by
    unfold execOp
    simp [hop, resolve, Act.eval, Deferred.ofValue, invoke, hargs, he]
  unfold Oper.wp
  rw [hrun, Oper.upon_enter]
  refine h.mono fun e w'' hh => ?_
  obtain ⟨v, rfl, hk⟩ := hh
  exact hk
def pathB (md : Region.Mode) (ops : Array Oper) : List Nat → Array Bool → Bool
  | [], b => (Region.ready md ops b).isEmpty
  | t :: r, b => decide (Region.ready md ops b = [t]) && pathB md ops r (b.setIfInBounds t true)
theorem wpAny_of_path {md : Region.Mode} : ∀ (T : List Nat) (l : List Oper) (b : Array Bool) (a : Act) (w : World), T.map (fun t => ops[t]?) = l.map some → pathB md ops T b = true → wpList P ops Q l a w → wpAny P md ops Q T.length b a w
  | [], l, b, a, w, hl, hB, h => by
    obtain rfl : l = [] := by simpa using hl.symm
    exact ⟨by simpa [pathB] using hB, h⟩
  | t :: r, l, b, a, w, hl, hB, h => by
    cases l with
    | nil => simp at hl
    | cons o l =>
      simp only [List.map_cons, List.cons.injEq] at hl
      simp only [pathB, Bool.and_eq_true, decide_eq_true_eq] at hB
      refine ⟨fun h1 => (by rw [hB.1] at h1; cases h1), fun i hi => ?_⟩
      rw [hB.1] at hi
      have hik : i = t := by simpa using hi
      subst hik
      have hw : wpOp P ops Q i (wpList P ops Q l) a w := by unfold wpOp; simp only [hl.1]; exact h
      exact wpOp_mono (fun a' w' h' => wpAny_of_path r l _ a' w' hl.2 hB.2 h') hw
theorem put_comm (a : Act) {d e : Tmp} (u v : Value) (h : d ≠ e) : (a.put (some d) u).put (some e) v = (a.put (some e) v).put (some d) u := by
  simp only [Act.put]
  rw [Array.setIfInBounds_comm _ _ h]
theorem two_loads {fuel : Nat} {listed : Array Bool} (i1 c1 i2 : Nat) {o1 oc o2 : Oper} (h1 : ops[i1]? = some o1) (hc : ops[c1]? = some oc) (h2 : ops[i2]? = some o2) (g1 : o1.guard = none) (gc : oc.guard = none) (g2 : o2.guard = none)
    (r0 : Region.ready .any ops listed = [i1, i2]) (r1 : Region.ready .any ops (listed.setIfInBounds i1 true) = [c1, i2]) (r1c : Region.ready .any ops ((listed.setIfInBounds i1 true).setIfInBounds c1 true) = [i2])
    (r12 : Region.ready .any ops ((listed.setIfInBounds i1 true).setIfInBounds i2 true) = [c1]) (r2 : Region.ready .any ops (listed.setIfInBounds i2 true) = [i1]) (r21 : Region.ready .any ops ((listed.setIfInBounds i2 true).setIfInBounds i1 true) = [c1])
    (n1 : i1 ≠ i2) (n2 : c1 ≠ i2) {d1 dc d2 : Tmp} (e1 : o1.dst = some d1) (ec : oc.dst = some dc) (e2 : o2.dst = some d2) (m1 : d1 ≠ d2) (m2 : dc ≠ d2) (v1 v2 : Value)
    (l1 : (execOp a.eval o1).run P w = .ok (.value v1) w) (l1' : (execOp (a.put (some d2) v2).eval o1).run P w = .ok (.value v1) w)
    (l2 : (execOp a.eval o2).run P w = .ok (.value v2) w) (l2' : (execOp (a.put (some d1) v1).eval o2).run P w = .ok (.value v2) w) (l2c : ∀ v w2, Below w.heap.size w w2 → (execOp ((a.put (some d1) v1).put (some dc) v).eval o2).run P w2 = .ok (.value v2) w2)
    {f : FuncId} {fn : Func} {ags : Array Operand} {ts : Array TypeId} (hf : P.funcs[f]? = some fn) (hname : (fn.name == "runtime.NumGoroutine") = false) (hb : fn.body.isSome = true) (hop : oc.op = .call { callee := .value (.func f), args := ags, argTypes := ts }) (args : Array Value)
    (ha1 : ags.map (a.put (some d1) v1).eval = args) (ha2 : ags.map ((a.put (some d1) v1).put (some d2) v2).eval = args) (Post : Value → World → Prop)
    (hcall : Calls P f args w fun e w' => ∃ v, e = .returned v ∧ Post v w' ∧ Below w.heap.size w w')
    (hk : ∀ v w2, Below w.heap.size w w2 → Post v w2 → wpAny P .any ops Q fuel (((listed.setIfInBounds i1 true).setIfInBounds c1 true).setIfInBounds i2 true) (((a.put (some d1) v1).put (some dc) v).put (some d2) v2) w2) :
    wpAny P .any ops Q (fuel + 3) listed a w := by
  have last : wpOp P ops Q c1 (wpAny P .any ops Q fuel (((listed.setIfInBounds i1 true).setIfInBounds i2 true).setIfInBounds c1 true)) ((a.put (some d1) v1).put (some d2) v2) w := by
    refine op_call hc gc hf hname hb hop args ha2 (hcall.mono fun e w' hh => ?_)
    obtain ⟨v, rfl, hp, hb'⟩ := hh
    refine ⟨v, rfl, ?_⟩
    have := hk v w' hb' hp
    rw [ec, put_comm _ _ _ (Ne.symm m2), Array.setIfInBounds_comm (i := i2) (j := c1) _ _ (Ne.symm n2)]
    exact this
  refine wpAny_all r0 (by simp) (fun i hi => ?_)
  simp only [List.mem_cons, List.not_mem_nil, or_false] at hi
  rcases hi with rfl | rfl
  · refine op_run h1 g1 v1 l1 ?_
    rw [e1]
    refine wpAny_all r1 (by simp) (fun i hi => ?_)
    simp only [List.mem_cons, List.not_mem_nil, or_false] at hi
    rcases hi with rfl | rfl
    · refine op_call hc gc hf hname hb hop args ha1 (hcall.mono fun e w' hh => ?_)
      obtain ⟨v, rfl, hp, hb'⟩ := hh
      refine ⟨v, rfl, ?_⟩
      rw [ec]
      refine wpAny_all r1c (by simp) (fun i hi => ?_)
      simp only [List.mem_cons, List.not_mem_nil, or_false] at hi
      subst hi
      refine op_run h2 g2 v2 (l2c v w' hb') ?_
      rw [e2]
      exact hk v w' hb' hp
    · refine op_run h2 g2 v2 l2' ?_
      rw [e2]
      refine wpAny_all r12 (by simp) (fun i hi => ?_)
      simp only [List.mem_cons, List.not_mem_nil, or_false] at hi
      subst hi
      exact last
  · refine op_run h2 g2 v2 l2 ?_
    rw [e2]
    refine wpAny_all r2 (by simp) (fun i hi => ?_)
    simp only [List.mem_cons, List.not_mem_nil, or_false] at hi
    subst hi
    refine op_run h1 g1 v1 l1' ?_
    rw [e1]
    refine wpAny_all r21 (by simp) (fun i hi => ?_)
    simp only [List.mem_cons, List.not_mem_nil, or_false] at hi
    subst hi
    rw [← put_comm _ _ _ m1, Array.setIfInBounds_comm (i := _) (j := _) _ _ (Ne.symm n1)]
    exact last
end
end Go.Proofs.YtknlpjoidjgciaaDoorW.PrintOrd
end
section
namespace Go.Proofs.YtknlpjoidjgciaaDoorW.PrintCrc
open Go.RowKit Go.Proofs.YtknlpjoidjgciaaDoorW.PrintWords Go.Proofs.YtknlpjoidjgciaaDoorW.PrintHand Go.Proofs.YtknlpjoidjgciaaDoorW.PrintHx Go.Proofs.YtknlpjoidjgciaaDoorW.PrintLe
set_option linter.unusedVariables false
theorem xor_nat (a b : Nat) (ha : a < 4294967296) (hb : b < 4294967296) : Go.bits .xor .u32 (a : Int) (b : Int) = ((a ^^^ b : Nat) : Int) := by
  have h : (BitVec.ofInt 32 (a : Int) ^^^ BitVec.ofInt 32 (b : Int)).toNat = a ^^^ b := by
    rw [BitVec.toNat_xor, BitVec.ofInt_natCast, BitVec.ofInt_natCast, BitVec.toNat_ofNat, BitVec.toNat_ofNat, Nat.mod_eq_of_lt (by omega), Nat.mod_eq_of_lt (by omega)]
  have hlt : a ^^^ b < 2 ^ 32 := Nat.xor_lt_two_pow (by omega) (by omega)
  show IntKind.u32.wrap (((BitVec.ofInt 32 (a : Int) ^^^ BitVec.ofInt 32 (b : Int)).toNat : Nat) : Int) = _
  rw [h, IntKind.wrap_u32]
  omega
theorem and1_u32 (a : Nat) (ha : a < 4294967296) : Go.bits .and .u32 (a : Int) 1 = ((a % 2 : Nat) : Int) := by
  have h := (bits_nat .u32 32 (by decide) (fun n h0 h1 => by rw [IntKind.wrap_u32]; omega) a 1 (by omega) (by omega)).1
  rw [Nat.and_one_is_mod] at h
  exact h
def stepB (x : Nat) : Nat := x / 2 ^^^ (if x % 2 = 1 then 3988292384 else 0)
def stepN : Nat → Nat → Nat
  | 0, x => x
  | d + 1, x => stepN d (stepB x)
theorem stepB_lt {x : Nat} (h : x < 4294967296) : stepB x < 4294967296 := by
  unfold stepB
  have : x / 2 ^^^ (if x % 2 = 1 then 3988292384 else 0) < 2 ^ 32 := Nat.xor_lt_two_pow (by omega) (by split <;> omega)
  omega
theorem stepN_lt (d : Nat) : ∀ {x : Nat}, x < 4294967296 → stepN d x < 4294967296 := by
  induction d with
  | zero => exact fun h => h
  | succ d ih => exact fun h => ih (stepB_lt h)
theorem xor4 (a b c d : Nat) : (a ^^^ b) ^^^ (c ^^^ d) = (a ^^^ c) ^^^ (b ^^^ d) := by
  rw [Nat.xor_assoc, Nat.xor_assoc, ← Nat.xor_assoc b c d, Nat.xor_comm b c, Nat.xor_assoc c b d]
theorem stepB_xor (a b : Nat) : stepB (a ^^^ b) = stepB a ^^^ stepB b := by
  unfold stepB
  rw [xor4, Nat.xor_div_two]
  congr 1
  have h : (a ^^^ b) % 2 = a % 2 ^^^ b % 2 := by
    rw [← Nat.and_one_is_mod, ← Nat.and_one_is_mod a, ← Nat.and_one_is_mod b, Nat.and_xor_distrib_right]
  rw [h]
  rcases Nat.mod_two_eq_zero_or_one a with ha | ha <;> rcases Nat.mod_two_eq_zero_or_one b with hb | hb <;> rw [ha, hb] <;> simp
theorem stepN_xor (d : Nat) : ∀ a b : Nat, stepN d (a ^^^ b) = stepN d a ^^^ stepN d b := by
  induction d with
  | zero => exact fun _ _ => rfl
  | succ d ih => intro a b; simp only [stepN]; rw [stepB_xor, ih]
theorem stepN_split (d : Nat) : ∀ x : Nat, stepN d x = stepN d (x % 2 ^ d) ^^^ x / 2 ^ d := by
  induction d with
  | zero => intro x; simp [stepN, Nat.mod_one]
  | succ d ih =>
    intro x
    have e1 : x % 2 ^ (d + 1) / 2 = x / 2 % 2 ^ d := by
      rw [Nat.pow_succ, Nat.mul_comm, Nat.mod_mul_right_div_self]
    have e2 : x % 2 ^ (d + 1) % 2 = x % 2 := by
      rw [Nat.pow_succ]
      exact Nat.mod_mul_left_mod x (2 ^ d) 2
    have e3 : x / 2 / 2 ^ d = x / 2 ^ (d + 1) := by rw [Nat.div_div_eq_div_mul, Nat.pow_succ, Nat.mul_comm]
    simp only [stepN]
    have s1 : stepB x = x / 2 ^^^ (if x % 2 = 1 then 3988292384 else 0) := rfl
    have s2 : stepB (x % 2 ^ (d + 1)) = x / 2 % 2 ^ d ^^^ (if x % 2 = 1 then 3988292384 else 0) := by unfold stepB; rw [e1, e2]
    rw [s1, s2, stepN_xor, stepN_xor, ih (x / 2), e3, Nat.xor_assoc, Nat.xor_assoc, Nat.xor_comm (x / 2 ^ (d + 1))]
def crcS : Nat → List Nat → Nat
  | n, [] => n
  | n, c :: cs => crcS (n / 256 ^^^ stepN 8 ((n ^^^ c) % 256)) cs
def crcI : Nat → List Nat → Nat
  | n, [] => n
  | n, c :: cs => crcI (stepN 8 (n ^^^ c)) cs
theorem byte_step (n c : Nat) (hc : c < 256) : n / 256 ^^^ stepN 8 ((n ^^^ c) % 256) = stepN 8 (n ^^^ c) := by
  rw [stepN_split 8 (n ^^^ c), Nat.xor_comm]
  congr 1
  have h : (n ^^^ c) / 2 ^ 8 = n / 2 ^ 8 ^^^ c / 2 ^ 8 := by
    simp only [← Nat.shiftRight_eq_div_pow]
    exact Nat.shiftRight_xor_distrib
  rw [h, show c / 2 ^ 8 = 0 by omega]
  simp
theorem crc_eq (l : List Nat) (h : ∀ c ∈ l, c < 256) : ∀ n, crcS n l = crcI n l := by
  induction l with
  | nil => exact fun _ => rfl
  | cons c cs ih => intro n; simp only [crcS, crcI]; rw [byte_step n c (h c (by simp)), ih (fun x hx => h x (by simp [hx]))]
def nats (l : List Int) : List Nat := l.map Int.toNat
theorem crcI_lt (l : List Nat) (hb : ∀ c ∈ l, c < 256) : ∀ n, n < 4294967296 → crcI n l < 4294967296 := by
  induction l with
  | nil => exact fun n h => h
  | cons c cs ih =>
    intro n h
    have hc := hb c (by simp)
    have hlt : n ^^^ c < 2 ^ 32 := Nat.xor_lt_two_pow (by omega) (by omega)
    exact ih (fun x hx => hb x (by simp [hx])) _ (stepN_lt 8 (by omega))
theorem nats_byt {l : List Int} (hb : ∀ x ∈ l, 0 ≤ x ∧ x ≤ 255) : ∀ c ∈ nats l, c < 256 := by
  intro c hc
  obtain ⟨x, hx, rfl⟩ := List.mem_map.1 hc
  have := hb x hx
  omega
def crcV (l : List Int) : Int := ((crcI 4294967295 (nats l) ^^^ 4294967295 : Nat) : Int)
theorem crcV_range {l : List Int} (hb : ∀ x ∈ l, 0 ≤ x ∧ x ≤ 255) : 0 ≤ crcV l ∧ crcV l < 4294967296 := by
  have hlt := crcI_lt (nats l) (nats_byt hb) 4294967295 (by omega)
  have h : crcI 4294967295 (nats l) ^^^ 4294967295 < 2 ^ 32 := Nat.xor_lt_two_pow (by omega) (by omega)
  unfold crcV
  omega
end Go.Proofs.YtknlpjoidjgciaaDoorW.PrintCrc
end
section
namespace Go.Proofs.YtknlpjoidjgciaaDoorW.PrintFsb
open Go.RowKit Go.Proofs.YtknlpjoidjgciaaDoorW.PrintWords Go.Proofs.YtknlpjoidjgciaaDoorW.PrintHand Go.Proofs.YtknlpjoidjgciaaDoorW.PrintHx Go.Proofs.YtknlpjoidjgciaaDoorW.PrintLe Go.Proofs.YtknlpjoidjgciaaDoorW.PrintIno Go.Proofs.YtknlpjoidjgciaaDoorW.PrintDec Go.Proofs.YtknlpjoidjgciaaDoorW.PrintFsi
set_option linter.unusedVariables false
set_option linter.unusedSimpArgs false
def magicF : List Int := [114, 111, 111, 116, 114, 101, 99, 49]
def fsParts (a : List Int) : List (List Int) := [magicF, leB (a.getD 0 0) 8, leB (a.getD 1 0) 4, leB (a.getD 2 0) 4, leB (a.getD 3 0) 8, leB (a.getD 4 0) 8, leB (a.getD 5 0) 4, leB (a.getD 6 0) 4, rootBytes (fsI a), rootBytes (fsM a)]
def fsHead (a : List Int) : List Int := (fsParts a).flatten
def fsBody (a : List Int) : List Int := fsHead a ++ flat4 (fsS a)
def fsFill (a : List Int) : List Int := fsBody a ++ List.replicate 208 0
theorem fsI_length {a : List Int} (h : a.length = 68) : (fsI a).length = 15 := part_len h (by decide)
theorem fsM_length {a : List Int} (h : a.length = 68) : (fsM a).length = 15 := part_len h (by decide)
theorem fsS_length {a : List Int} (h : a.length = 68) : (fsS a).length = 31 := part_len h (by decide)
theorem fsHead_length {a : List Int} (h : a.length = 68) : (fsHead a).length = 176 := by
  simp [fsHead, fsParts, magicF, leB_length, rootBytes_length (fsI_length h), rootBytes_length (fsM_length h)]
theorem fsBody_length {a : List Int} (h : a.length = 68) : (fsBody a).length = 300 := by
  rw [fsBody, List.length_append, fsHead_length h, flat4_length, fsS_length h]
theorem fsFill_length {a : List Int} (h : a.length = 68) : (fsFill a).length = 508 := by
  rw [fsFill, List.length_append, fsBody_length h, List.length_replicate]
theorem byt_append {a b : List Int} (ha : Byt a) (hb : Byt b) : Byt (a ++ b) := fun x hx => by
  rcases List.mem_append.1 hx with h | h
  · exact ha x h
  · exact hb x h
theorem byt_zeros (n : Nat) : Byt (List.replicate n 0) := fun x hx => by
  rw [(List.mem_replicate.1 hx).2]
  omega
theorem byt_flatten {l : List (List Int)} (h : ∀ x ∈ l, Byt x) : Byt l.flatten := fun x hx => by
  obtain ⟨y, hy, hxy⟩ := List.mem_flatten.1 hx
  exact h y hy x hxy
theorem fsHead_byt (a : List Int) : Byt (fsHead a) := byt_flatten (fun x hx => by
  unfold fsParts at hx
  simp only [List.mem_cons, List.not_mem_nil, or_false] at hx
  rcases hx with rfl | rfl | rfl | rfl | rfl | rfl | rfl | rfl | rfl | rfl
  · intro y hy
    unfold magicF at hy
    simp only [List.mem_cons, List.not_mem_nil, or_false] at hy
    omega
  · exact leB_byt _ _
  · exact leB_byt _ _
  · exact leB_byt _ _
  · exact leB_byt _ _
  · exact leB_byt _ _
  · exact leB_byt _ _
  · exact leB_byt _ _
  · exact rootBytes_byt _
  · exact rootBytes_byt _)
theorem fsFill_byt (a : List Int) : Byt (fsFill a) := byt_append (byt_append (fsHead_byt a) (flat4_byt _)) (byt_zeros _)
theorem fsGood_get {a : List Int} (h : fsGood a = true) : (0 ≤ a.getD 0 0 ∧ a.getD 0 0 ≤ 1099511627776) ∧ (0 ≤ a.getD 1 0 ∧ a.getD 1 0 ≤ 2048) ∧ (0 ≤ a.getD 2 0 ∧ a.getD 2 0 ≤ 2048) ∧ (0 ≤ a.getD 3 0 ∧ a.getD 3 0 ≤ 1099511627776) ∧ (0 ≤ a.getD 4 0 ∧ a.getD 4 0 ≤ 1099511627776) ∧ (0 ≤ a.getD 5 0 ∧ a.getD 5 0 ≤ 1000) ∧ (0 ≤ a.getD 6 0 ∧ a.getD 6 0 ≤ 65536) ∧ rootGood (fsI a) = true ∧ rootGood (fsM a) = true ∧ (∀ x ∈ fsS a, 0 ≤ x ∧ x < 2048) := by
  unfold fsGood fsTop at h
  simp only [Bool.and_eq_true, Bool.or_eq_true, decide_eq_true_eq] at h
  obtain ⟨h0, h3, h4, h1, h2, h5, h6, hi, hm, _, _, ha⟩ := h
  have q0 := rng_of h0
  have q1 := rng_of h1
  have q2 := rng_of h2
  have q3 := rng_of h3
  have q4 := rng_of h4
  have q5 := rng_of h5
  have q6 : 0 ≤ a.getD 6 0 ∧ a.getD 6 0 ≤ 65536 := by
    rcases h6 with h6 | h6
    · omega
    · have := rng_of h6; omega
  refine ⟨by omega, by omega, by omega, by omega, by omega, by omega, q6, hi, hm, fun x hx => ?_⟩
  have hp := List.all_eq_true.1 ha x (by unfold fsPtrs; exact List.mem_append_right _ hx)
  unfold fsPtr at hp
  rw [Bool.and_eq_true] at hp
  exact ptrOk_range hp.1
theorem fsS_get {a : List Int} (h : fsGood a = true) (hl : a.length = 68) (j : Nat) (hj : j < 31) : 0 ≤ (fsS a).getD j 0 ∧ (fsS a).getD j 0 < 2048 := by
  have hjl : j < (fsS a).length := by rw [fsS_length hl]; exact hj
  rw [List.getD_eq_getElem?_getD, List.getElem?_eq_getElem hjl]
  exact (fsGood_get h).2.2.2.2.2.2.2.2.2 _ (List.getElem_mem hjl)
theorem put_end (A X : List Int) (p sz m at_ : Nat) (hA : A.length = p) (hX : X.length = sz) (hm : sz ≤ m) (ha : at_ = p) : (A ++ List.replicate m 0).take at_ ++ X ++ (A ++ List.replicate m 0).drop (at_ + sz) = (A ++ X) ++ List.replicate (m - sz) 0 := by
  have h := put_zeros A X p 0 m at_ sz hA hX (by omega) (by omega)
  rw [h]
  simp
theorem fs_puts {a Q0 Q1 Q2 Q3 Q4 Q5 Q6 Q7 Q8 Q9 Q10 : List Int} (h : a.length = 68) (h0 : Q0 = List.replicate 512 0) (h1 : Q1 = Q0.take 0 ++ magicF ++ Q0.drop (0 + 8)) (h2 : Q2 = Q1.take (0 + 8) ++ leB (a.getD 0 0) 8 ++ Q1.drop (0 + 8 + 8)) (h3 : Q3 = Q2.take (0 + 16) ++ leB (a.getD 1 0) 4 ++ Q2.drop (0 + 16 + 4)) (h4 : Q4 = Q3.take (0 + 20) ++ leB (a.getD 2 0) 4 ++ Q3.drop (0 + 20 + 4))
    (h5 : Q5 = Q4.take (0 + 24) ++ leB (a.getD 3 0) 8 ++ Q4.drop (0 + 24 + 8)) (h6 : Q6 = Q5.take (0 + 32) ++ leB (a.getD 4 0) 8 ++ Q5.drop (0 + 32 + 8)) (h7 : Q7 = Q6.take (0 + 40) ++ leB (a.getD 5 0) 4 ++ Q6.drop (0 + 40 + 4)) (h8 : Q8 = Q7.take (0 + 44) ++ leB (a.getD 6 0) 4 ++ Q7.drop (0 + 44 + 4)) (h9 : Q9 = Q8.take 48 ++ rootBytes (fsI a) ++ Q8.drop (48 + 64)) (h10 : Q10 = Q9.take 112 ++ rootBytes (fsM a) ++ Q9.drop (112 + 64)) : Q10 = fsHead a ++ List.replicate 336 0 := by
  have ri := rootBytes_length (fsI_length h)
  have rm := rootBytes_length (fsM_length h)
  have e1 : Q1 = magicF ++ List.replicate 504 0 := by
    rw [h1, h0]
    exact put_end [] magicF 0 8 512 0 rfl rfl (by decide) rfl
  have e2 : Q2 = (magicF ++ leB (a.getD 0 0) 8) ++ List.replicate 496 0 := by
    rw [h2, e1]
    exact put_end _ _ 8 8 504 (0 + 8) rfl (leB_length _ _) (by decide) (by decide)
  have e3 : Q3 = ((magicF ++ leB (a.getD 0 0) 8) ++ leB (a.getD 1 0) 4) ++ List.replicate 492 0 := by
    rw [h3, e2]
    exact put_end _ _ 16 4 496 (0 + 16) (by simp [magicF, leB_length]) (leB_length _ _) (by decide) (by decide)
  have e4 : Q4 = (((magicF ++ leB (a.getD 0 0) 8) ++ leB (a.getD 1 0) 4) ++ leB (a.getD 2 0) 4) ++ List.replicate 488 0 := by
    rw [h4, e3]
    exact put_end _ _ 20 4 492 (0 + 20) (by simp [magicF, leB_length]) (leB_length _ _) (by decide) (by decide)
  have e5 : Q5 = ((((magicF ++ leB (a.getD 0 0) 8) ++ leB (a.getD 1 0) 4) ++ leB (a.getD 2 0) 4) ++ leB (a.getD 3 0) 8) ++ List.replicate 480 0 := by
    rw [h5, e4]
    exact put_end _ _ 24 8 488 (0 + 24) (by simp [magicF, leB_length]) (leB_length _ _) (by decide) (by decide)
  have e6 : Q6 = (((((magicF ++ leB (a.getD 0 0) 8) ++ leB (a.getD 1 0) 4) ++ leB (a.getD 2 0) 4) ++ leB (a.getD 3 0) 8) ++ leB (a.getD 4 0) 8) ++ List.replicate 472 0 := by
    rw [h6, e5]
    exact put_end _ _ 32 8 480 (0 + 32) (by simp [magicF, leB_length]) (leB_length _ _) (by decide) (by decide)
  have e7 : Q7 = ((((((magicF ++ leB (a.getD 0 0) 8) ++ leB (a.getD 1 0) 4) ++ leB (a.getD 2 0) 4) ++ leB (a.getD 3 0) 8) ++ leB (a.getD 4 0) 8) ++ leB (a.getD 5 0) 4) ++ List.replicate 468 0 := by
    rw [h7, e6]
    exact put_end _ _ 40 4 472 (0 + 40) (by simp [magicF, leB_length]) (leB_length _ _) (by decide) (by decide)
  have e8 : Q8 = (((((((magicF ++ leB (a.getD 0 0) 8) ++ leB (a.getD 1 0) 4) ++ leB (a.getD 2 0) 4) ++ leB (a.getD 3 0) 8) ++ leB (a.getD 4 0) 8) ++ leB (a.getD 5 0) 4) ++ leB (a.getD 6 0) 4) ++ List.replicate 464 0 := by
    rw [h8, e7]
    exact put_end _ _ 44 4 468 (0 + 44) (by simp [magicF, leB_length]) (leB_length _ _) (by decide) (by decide)
  have e9 : Q9 = ((((((((magicF ++ leB (a.getD 0 0) 8) ++ leB (a.getD 1 0) 4) ++ leB (a.getD 2 0) 4) ++ leB (a.getD 3 0) 8) ++ leB (a.getD 4 0) 8) ++ leB (a.getD 5 0) 4) ++ leB (a.getD 6 0) 4) ++ rootBytes (fsI a)) ++ List.replicate 400 0 := by
    rw [h9, e8]
    exact put_end _ _ 48 64 464 48 (by simp [magicF, leB_length]) ri (by decide) (by decide)
  have e10 : Q10 = (((((((((magicF ++ leB (a.getD 0 0) 8) ++ leB (a.getD 1 0) 4) ++ leB (a.getD 2 0) 4) ++ leB (a.getD 3 0) 8) ++ leB (a.getD 4 0) 8) ++ leB (a.getD 5 0) 4) ++ leB (a.getD 6 0) 4) ++ rootBytes (fsI a)) ++ rootBytes (fsM a)) ++ List.replicate 336 0 := by
    rw [h10, e9]
    exact put_end _ _ 112 64 400 112 (by simp [magicF, leB_length, ri]) rm (by decide) (by decide)
  rw [e10]
  unfold fsHead fsParts
  simp only [List.flatten_cons, List.flatten_nil, List.append_nil, List.append_assoc]
theorem fs_snap (H xs : List Int) (j : Nat) (hH : H.length = 176) (hx : xs.length = 31) (hj : j < 31) :
    ((H ++ flat4 (xs.take j)) ++ List.replicate (336 - 4 * j) 0).take (0 + (176 + 4 * j)) ++ leB (xs.getD j 0) 4 ++ ((H ++ flat4 (xs.take j)) ++ List.replicate (336 - 4 * j) 0).drop (0 + (176 + 4 * j) + 4) = (H ++ flat4 (xs.take (j + 1))) ++ List.replicate (336 - 4 * (j + 1)) 0 := by
  have hl : (H ++ flat4 (xs.take j)).length = 176 + 4 * j := by rw [List.length_append, hH, flat4_length, List.length_take, hx, Nat.min_eq_left (by omega)]
  rw [put_end _ _ (176 + 4 * j) 4 (336 - 4 * j) (0 + (176 + 4 * j)) hl (leB_length _ _) (by omega) (by omega), flat4_take xs j (by omega), List.append_assoc H, show 336 - 4 * j - 4 = 336 - 4 * (j + 1) by omega]
end Go.Proofs.YtknlpjoidjgciaaDoorW.PrintFsb
end
section
namespace Go.Proofs.YtknlpjoidjgciaaDoorW.PrintFsd
open Go.RowKit Go.Proofs.YtknlpjoidjgciaaDoorW.PrintWords Go.Proofs.YtknlpjoidjgciaaDoorW.PrintHand Go.Proofs.YtknlpjoidjgciaaDoorW.PrintHx Go.Proofs.YtknlpjoidjgciaaDoorW.PrintLe Go.Proofs.YtknlpjoidjgciaaDoorW.PrintIno Go.Proofs.YtknlpjoidjgciaaDoorW.PrintDec Go.Proofs.YtknlpjoidjgciaaDoorW.PrintFsi Go.Proofs.YtknlpjoidjgciaaDoorW.PrintFsb Go.Proofs.YtknlpjoidjgciaaDoorW.PrintCrc
set_option linter.unusedVariables false
set_option linter.unusedSimpArgs false
def snapsOf (l : List Int) : List Int := (List.range 31).map fun j => le (seg l (176 + 4 * j) 4)
def fsTopOf (f : List Int → Int) (g : List Int → List Int) (l : List Int) : List Int := f (seg l 8 8) :: le (seg l 16 4) :: le (seg l 20 4) :: f (seg l 24 8) :: f (seg l 32 8) :: le (seg l 40 4) :: le (seg l 44 4) :: (g (seg l 48 64) ++ g (seg l 112 64))
def fsOf (f : List Int → Int) (g : List Int → List Int) (l : List Int) : List Int := fsTopOf f g l ++ snapsOf l
def fsA (l : List Int) : List Int := fsOf gcap rootA l
def fsB (l : List Int) : List Int := fsOf (fun x => wrap64 (le x)) rootB l
theorem snapsOf_length (l : List Int) : (snapsOf l).length = 31 := by simp [snapsOf]
theorem snapsOf_get (l : List Int) (j : Nat) (hj : j < 31) : (snapsOf l).getD j 0 = le (seg l (176 + 4 * j) 4) := by
  unfold snapsOf
  rw [List.getD_eq_getElem?_getD, List.getElem?_map, List.getElem?_range hj]
  rfl
theorem fsTopA_length (l : List Int) : (fsTopOf gcap rootA l).length = 37 := by
  have h1 := rootOf_length gcap (seg l 48 64)
  have h2 := rootOf_length gcap (seg l 112 64)
  simp [fsTopOf, rootA, h1, h2]
theorem fsTopB_length (l : List Int) : (fsTopOf (fun x => wrap64 (le x)) rootB l).length = 37 := by
  have h1 := rootOf_length (fun x => wrap64 (le x)) (seg l 48 64)
  have h2 := rootOf_length (fun x => wrap64 (le x)) (seg l 112 64)
  simp [fsTopOf, rootB, h1, h2]
theorem fsA_length (l : List Int) : (fsA l).length = 68 := by rw [fsA, fsOf, List.length_append, fsTopA_length, snapsOf_length]
theorem fsB_length (l : List Int) : (fsB l).length = 68 := by rw [fsB, fsOf, List.length_append, fsTopB_length, snapsOf_length]
def fsBytes (a : List Int) : List Int := fsFill a ++ leB (crcV (fsFill a)) 4
def decF (r l : List Int) : List Int × Int := if l.length = 512 ∧ fsGood r = true ∧ fsBytes r = l then (r, 0) else (List.replicate 68 0, 21)
theorem fsBytes_byt (a : List Int) : Byt (fsBytes a) := byt_append (fsFill_byt a) (leB_byt _ _)
theorem seg7 {a b c d e f g : Int} {x y z : List Int} (hx : x.length = 15) : seg (a :: b :: c :: d :: e :: f :: g :: (x ++ y) ++ z) 7 15 = x := by
  show ((x ++ y) ++ z).take 15 = x
  rw [List.append_assoc, ← hx, List.take_left]
theorem seg22 {a b c d e f g : Int} {x y z : List Int} (hx : x.length = 15) (hy : y.length = 15) : seg (a :: b :: c :: d :: e :: f :: g :: (x ++ y) ++ z) 22 15 = y := by
  show (((x ++ y) ++ z).drop 15).take 15 = y
  rw [List.append_assoc, ← hx, List.drop_left, hx, ← hy, List.take_left]
theorem fsA_I (l : List Int) : fsI (fsA l) = rootA (seg l 48 64) := seg7 (rootOf_length _ _)
theorem fsA_M (l : List Int) : fsM (fsA l) = rootA (seg l 112 64) := seg22 (rootOf_length _ _) (rootOf_length _ _)
theorem fsB_I (l : List Int) : fsI (fsB l) = rootB (seg l 48 64) := seg7 (rootOf_length _ _)
theorem fsB_M (l : List Int) : fsM (fsB l) = rootB (seg l 112 64) := seg22 (rootOf_length _ _) (rootOf_length _ _)
theorem fs_eq {l : List Int} (h0 : gcap (seg l 8 8) = wrap64 (le (seg l 8 8))) (h3 : gcap (seg l 24 8) = wrap64 (le (seg l 24 8))) (h4 : gcap (seg l 32 8) = wrap64 (le (seg l 32 8))) (hi : rootA (seg l 48 64) = rootB (seg l 48 64)) (hm : rootA (seg l 112 64) = rootB (seg l 112 64)) : fsA l = fsB l := by
  unfold fsA fsB fsOf fsTopOf
  rw [h0, h3, h4, hi, hm]
theorem decF_same {l : List Int} (h : Byt l) : decF (fsA l) l = decF (fsB l) l := by
  by_cases hl : l.length = 512
  · have s8 : ∀ o, o + 8 ≤ 512 → (seg l o 8).length ≤ 8 := fun o ho => by rw [seg_le _ _ (by omega)]; omega
    have hb := fun o m => seg_byt h o m
    by_cases hA : fsGood (fsA l) = true
    · obtain ⟨h0, _, _, h3, h4, _, _, h7, h8, _⟩ := fsGood_get hA
      rw [fsA_I] at h7
      rw [fsA_M] at h8
      rw [fs_eq (cap_same (hb 8 8) (s8 8 (by omega)) h0.2) (cap_same (hb 24 8) (s8 24 (by omega)) h3.2) (cap_same (hb 32 8) (s8 32 (by omega)) h4.2) (root_sameA (hb 48 64) (seg_le _ _ (by omega)) h7) (root_sameA (hb 112 64) (seg_le _ _ (by omega)) h8)]
    · by_cases hB : fsGood (fsB l) = true
      · obtain ⟨h0, _, _, h3, h4, _, _, h7, h8, _⟩ := fsGood_get hB
        rw [fsB_I] at h7
        rw [fsB_M] at h8
        rw [fs_eq (wrap_same (hb 8 8) (s8 8 (by omega)) h0.1 h0.2) (wrap_same (hb 24 8) (s8 24 (by omega)) h3.1 h3.2) (wrap_same (hb 32 8) (s8 32 (by omega)) h4.1 h4.2) (root_sameB (hb 48 64) (seg_le _ _ (by omega)) h7) (root_sameB (hb 112 64) (seg_le _ _ (by omega)) h8)]
      · unfold decF
        rw [if_neg (fun h_ => hA h_.2.1), if_neg (fun h_ => hB h_.2.1)]
  · unfold decF
    rw [if_neg (fun h_ => hl h_.1), if_neg (fun h_ => hl h_.1)]
def fsUp (t s : List Int) (j : Nat) : List Int := t ++ s.take j ++ List.replicate (31 - j) 0
theorem fsUp_length {t s : List Int} (ht : t.length = 37) (hs : s.length = 31) {j : Nat} (hj : j ≤ 31) : (fsUp t s j).length = 68 := by
  rw [fsUp, List.length_append, List.length_append, ht, List.length_take, hs, List.length_replicate, Nat.min_eq_left hj]
  omega
theorem fsUp_set {t s : List Int} (ht : t.length = 37) (hs : s.length = 31) {j : Nat} (hj : j < 31) : (fsUp t s j).set (37 + j) (s.getD j 0) = fsUp t s (j + 1) := by
  have h1 : (t ++ s.take j).length = 37 + j := by rw [List.length_append, ht, List.length_take, hs, Nat.min_eq_left (by omega)]
  unfold fsUp
  rw [List.set_append_right (37 + j) _ (by rw [h1]; exact Nat.le_refl _), h1, Nat.sub_self, show 31 - j = (31 - (j + 1)) + 1 by omega, List.replicate_succ, List.set_cons_zero, List.take_succ_eq_append_getElem (by rw [hs]; exact hj), List.getD_eq_getElem?_getD, List.getElem?_eq_getElem (by rw [hs]; exact hj)]
  simp only [Option.getD_some, List.append_assoc, List.cons_append, List.nil_append]
theorem fsUp_all {t s : List Int} (hs : s.length = 31) : fsUp t s 31 = t ++ s := by
  rw [fsUp, List.take_of_length_le (by rw [hs]; exact Nat.le_refl _)]
  simp
theorem fsUp_zero {t s : List Int} : fsUp t s 0 = t ++ List.replicate 31 0 := by simp [fsUp]
end Go.Proofs.YtknlpjoidjgciaaDoorW.PrintFsd
end
section
namespace Go.Proofs.YtknlpjoidjgciaaDoorW.PrintChs
open Go Go.RowKit Go.Proofs.YtknlpjoidjgciaaDoorW.PrintWords Go.Proofs.YtknlpjoidjgciaaDoorW.PrintHand Go.Proofs.YtknlpjoidjgciaaDoorW.PrintHx Go.Proofs.YtknlpjoidjgciaaDoorW.PrintLe Go.Proofs.YtknlpjoidjgciaaDoorW.PrintIno Go.Proofs.YtknlpjoidjgciaaDoorW.PrintDec Go.Proofs.YtknlpjoidjgciaaDoorW.PrintFsi Go.Proofs.YtknlpjoidjgciaaDoorW.PrintFsb Go.Proofs.YtknlpjoidjgciaaDoorW.PrintFsd Go.Proofs.YtknlpjoidjgciaaDoorW.PrintCrc
set_option linter.unusedVariables false
set_option linter.unusedSimpArgs false
section
variable {P : Program} {ops : Array Oper} {rest : List Oper} {o : Oper} {a : Act} {w : World} {Q : Exit → Act → World → Prop}
theorem hx_build (hgd : o.guard = none) (t : TypeId) (ps : Array (Nat × Operand)) (ho : o.op = .build t ps) (vs : Array (Nat × Value)) (hv : (ps.map fun (i, x) => (i, a.eval x)) = vs) (v : Value) (hr : ∀ w, (Instr.build t vs).run P w = .ok v w)
    (h : wpList P ops Q rest (a.put o.dst v) w) : wpList P ops Q (o :: rest) a w := by
  refine wpList_plain hgd fun K hK => ?_
  unfold Oper.wp execOp
  simp only [ho, hv, Sem.run_bind, hr, Result.andThen_ok, Sem.run_pure]
  exact hK _ _ h
end
def blk (l : List Int) (b : Nat) : List Int := seg l (512 * b) 512
def decA (l : List Int) (b : Nat) : List Int × Int := decF (fsA (blk l b)) (blk l b)
def decB (l : List Int) (b : Nat) : List Int × Int := decF (fsB (blk l b)) (blk l b)
theorem blk_byt {l : List Int} (h : Byt l) (b : Nat) : Byt (blk l b) := seg_byt h _ _
theorem dec_same {l : List Int} (h : Byt l) (b : Nat) : decA l b = decB l b := decF_same (blk_byt h b)
theorem decF_length {r l : List Int} (h : r.length = 68) : (decF r l).1.length = 68 := by
  unfold decF
  split
  · exact h
  · simp
def sizeN (l : List Int) : Int := if l.length % 512 = 0 ∧ 64 ≤ l.length / 512 ∧ l.length / 512 ≤ 2048 then ((l.length / 512 : Nat) : Int) else 0
theorem sizeN_pos {l : List Int} (h : sizeN l ≠ 0) : sizeN l = ((l.length / 512 : Nat) : Int) ∧ l.length % 512 = 0 ∧ 64 ≤ l.length / 512 ∧ l.length / 512 ≤ 2048 := by
  unfold sizeN at h ⊢
  split at h
  · rename_i c
    rw [if_pos c]
    exact ⟨rfl, c⟩
  · exact absurd rfl h
def stN (d : Nat → List Int × Int) (n : Int) : Nat → List Int × Int × Bool
  | 0 => (List.replicate 68 0, 0, false)
  | j + 1 => if ((d j).2 = 0 ∧ (d j).1.getD 1 0 = n) ∧ ((stN d n j).2.2 = false ∨ (stN d n j).1.getD 0 0 < (d j).1.getD 0 0) then ((d j).1, (j : Int), true) else stN d n j
def chosen (s : List Int × Int × Bool) : List Int × Int × Int := if s.2.2 = true then (s.1, s.2.1, 0) else (List.replicate 68 0, 0, 21)
def chooseF (d : Nat → List Int × Int) (l : List Int) : List Int × Int × Int := if sizeN l = 0 then (List.replicate 68 0, 0, 7) else chosen (stN d (sizeN l) 2)
theorem stN_length {d : Nat → List Int × Int} (hd : ∀ j, (d j).1.length = 68) (n : Int) : ∀ j, (stN d n j).1.length = 68
  | 0 => by simp [stN]
  | j + 1 => by
    unfold stN
    split
    · exact hd j
    · exact stN_length hd n j
theorem stN_skip {d : Nat → List Int × Int} {n : Int} {j : Nat} {L : List Int} {s : Int} {f : Bool} {r : List Int} {k : Int} (h : stN d n j = (L, s, f)) (hd : d j = (r, k)) (hc : ¬ ((k = 0 ∧ r.getD 1 0 = n) ∧ (f = false ∨ L.getD 0 0 < r.getD 0 0))) : stN d n (j + 1) = (L, s, f) := by
  unfold stN
  rw [h, hd, if_neg hc]
theorem stN_use {d : Nat → List Int × Int} {n : Int} {j : Nat} {L : List Int} {s : Int} {f : Bool} {r : List Int} {k : Int} (h : stN d n j = (L, s, f)) (hd : d j = (r, k)) (hc : (k = 0 ∧ r.getD 1 0 = n) ∧ (f = false ∨ L.getD 0 0 < r.getD 0 0)) : stN d n (j + 1) = (r, (j : Int), true) := by
  unfold stN
  rw [h, hd, if_pos hc]
theorem chooseF_length {d : Nat → List Int × Int} (hd : ∀ j, (d j).1.length = 68) (l : List Int) : (chooseF d l).1.length = 68 := by
  unfold chooseF chosen
  split
  · simp
  · split
    · exact stN_length hd _ 2
    · simp
def volC (A : Option Addr) (n c : Nat) (L : List Int) (a : Int) : List Value := .slice A n c :: (nums .i64 L ++ [.int .i64 a, .int .u32 0, .int .i32 0, .int .u32 0, .slice none 0 0, .nilIface])
theorem volC_size {A : Option Addr} {n c : Nat} {L : List Int} {a : Int} (h : L.length = 68) : (volC A n c L a).toArray.size = 75 := by simp [volC, nums, h]
theorem volC_at {A : Option Addr} {n c : Nat} {L : List Int} {a : Int} (h : L.length = 68) : (volC A n c L a).toArray[69]? = some (.int .i64 a) := by
  rw [List.getElem?_toArray, volC, List.getElem?_cons_succ, List.getElem?_append_right (by simp [nums, h])]
  simp [nums, h]
theorem volC_rec {A : Option Addr} {n c : Nat} {L : List Int} {a : Int} (h : L.length = 68) (i : Nat) (hi : i < 68) : (volC A n c L a).toArray[1 + i]? = some (.int .i64 (L.getD i 0)) := by
  rw [List.getElem?_toArray, show 1 + i = i + 1 by omega, volC, List.getElem?_cons_succ, List.getElem?_append_left (by simp [nums, h, hi])]
  simp [nums, List.getElem?_eq_getElem (show i < L.length by omega)]
theorem volC_setr {A : Option Addr} {n c : Nat} {L M : List Int} {a : Int} (h : L.length = 68) (h' : M.length = 68) : (volC A n c L a).toArray.toList.take 1 ++ nums .i64 M ++ (volC A n c L a).toArray.toList.drop (1 + (nums .i64 M).length) = (volC A n c M a).toArray.toList := by
  have e : (nums .i64 M).length = (nums .i64 L).length := by simp [nums, h, h']
  rw [e]
  show [_] ++ nums .i64 M ++ (volC A n c L a).drop (1 + (nums .i64 L).length) = _
  rw [show 1 + (nums .i64 L).length = (nums .i64 L).length + 1 by omega, volC, List.drop_succ_cons, List.drop_left]
  rfl
theorem volC_seta {A : Option Addr} {n c : Nat} {L : List Int} {a b : Int} (h : L.length = 68) : (volC A n c L a).toArray.toList.take 69 ++ [.int .i64 b] ++ (volC A n c L a).toArray.toList.drop (69 + 1) = (volC A n c L b).toArray.toList := by
  have hn : (nums .i64 L).length = 68 := by simp [nums, h]
  show (volC A n c L a).take 69 ++ [.int .i64 b] ++ (volC A n c L a).drop 70 = volC A n c L b
  unfold volC
  rw [List.take_succ_cons, List.drop_succ_cons, List.take_append_of_le_length (by omega), List.take_of_length_le (by omega), List.drop_append, List.drop_eq_nil_of_le (by omega), hn]
  simp
end Go.Proofs.YtknlpjoidjgciaaDoorW.PrintChs
end
section
namespace Go.Proofs.YtknlpjoidjgciaaDoorW.PrintHx
open Go Go.RowKit Go.Proofs.YtknlpjoidjgciaaDoorW.PrintWords Go.Proofs.YtknlpjoidjgciaaDoorW.PrintHand
set_option linter.unusedVariables false
theorem ea_kept {B : Nat} {w w1 : World} (hb : Below B w w1) {ad : Addr} {v : Value} (h : w.cell? ad = some v) (hB : ad.block < B) : w1.cell? ad = some v := by
  unfold World.cell? at h ⊢
  rw [hb.block _ hB]
  exact h
theorem ea_lt {w : World} {ad : Addr} {v : Value} (h : w.cell? ad = some v) : ad.block < w.heap.size := by
  rcases Nat.lt_or_ge ad.block w.heap.size with h1 | h1
  · exact h1
  · simp [World.cell?, Array.getElem?_eq_none h1] at h
theorem ea_thaw {w : World} {g : Nat} {cs : Array Value} {t : TypeId} (h : w.heap[g]? = some (.cells cs t (0, 0))) (i : Nat) : w.frozen? ⟨g, i, none⟩ = false := by
  simp [World.frozen?, h]
theorem ea_cell {w w2 : World} {o1 o2 o3 o4 : Obj} {g : Nat} {v u : Value} {t : TypeId} (hw : w2 = ((((w.alloc o1).alloc o2).alloc o3).alloc o4).setCell ⟨g, 0, none⟩ u) (h : w.heap[g]? = some (.cells #[v] t (0, 0))) (hg : g < w.heap.size) : w2.cell? ⟨g, 0, none⟩ = some u := by
  rw [hw]
  apply World.cell?_setCell_same
  show _ = some v
  rw [World.cell?_alloc_lt _ _ ⟨g, 0, none⟩ (by simp; omega), World.cell?_alloc_lt _ _ ⟨g, 0, none⟩ (by simp; omega), World.cell?_alloc_lt _ _ ⟨g, 0, none⟩ (by simp; omega), World.cell?_alloc_lt _ _ ⟨g, 0, none⟩ hg]
  exact blk_cell h 0
theorem ea_below {w0 w w2 : World} {o1 o2 o3 o4 : Obj} {g B : Nat} {u : Value} (hw : w2 = ((((w.alloc o1).alloc o2).alloc o3).alloc o4).setCell ⟨g, 0, none⟩ u) (hb : Below B w0 w) (hg : B ≤ g) (hB : B ≤ w.heap.size) : Below B w0 w2 := by
  rw [hw]
  have h1 := hb.alloc hB o1
  have s1 : B ≤ (w.alloc o1).heap.size := by simp; omega
  have h2 := h1.alloc s1 o2
  have s2 : B ≤ ((w.alloc o1).alloc o2).heap.size := by simp; omega
  have h3 := h2.alloc s2 o3
  have s3 : B ≤ (((w.alloc o1).alloc o2).alloc o3).heap.size := by simp; omega
  exact Below.setCell (h3.alloc s3 o4) hg u
end Go.Proofs.YtknlpjoidjgciaaDoorW.PrintHx
end
section
namespace Go.Proofs.YtknlpjoidjgciaaDoorW.PrintSnp
open Go Go.RowKit Go.Proofs.YtknlpjoidjgciaaDoorW.PrintWords Go.Proofs.YtknlpjoidjgciaaDoorW.PrintHand Go.Proofs.YtknlpjoidjgciaaDoorW.PrintHx Go.Proofs.YtknlpjoidjgciaaDoorW.PrintLe Go.Proofs.YtknlpjoidjgciaaDoorW.PrintIno Go.Proofs.YtknlpjoidjgciaaDoorW.PrintFsi Go.Proofs.YtknlpjoidjgciaaDoorW.PrintFsb Go.Proofs.YtknlpjoidjgciaaDoorW.PrintCrc Go.Proofs.YtknlpjoidjgciaaDoorW.PrintGrow Go.Proofs.YtknlpjoidjgciaaDoorW.PrintDec
set_option linter.unusedVariables false
set_option linter.unusedSimpArgs false
section
variable {P : Program} {ops : Array Oper} {rest : List Oper} {o : Oper} {a : Act} {w : World} {Q : Exit → Act → World → Prop}
theorem hx_eqi (hgd : o.guard = none) (t u : TypeId) (x y : Operand) (ho : o.op = .binOp .eql t x y u) (ht : P.underlying t = some (.int .i64)) (p q : Int) (hx : a.eval x = .int .i64 p) (hy : a.eval y = .int .i64 q)
    (b : Bool) (hb : Aside0 ((p == q) = b)) (h : wpList P ops Q rest (a.put o.dst (.bool b)) w) : wpList P ops Q (o :: rest) a w := by
  obtain rfl := hb.out
  refine wpList_plain hgd fun K hK => ?_
  have hg : (eqGuard .eql t x y (.int .i64 p) (.int .i64 q)).run P w = .ok () w := by simp [eqGuard]
  have hr : (binOp .eql t (.int .i64 p) (.int .i64 q)).run P w = .ok (.bool (p == q)) w := by
    have h1 := run_equalIn_int (P := P) w 9999 t .i64 .i64 p q ht
    simp only [binOp]
    simp [Op.equal, Op.maxDepth, h1]
    rfl
  unfold Oper.wp execOp
  simp only [ho, hx, hy, Sem.run_bind, hg, hr, Result.andThen_ok, Sem.run_pure, Oper.upon_value]
  exact hK _ _ h
end
def snapC (x : Int) (s : ByteArray) (p q : Int) (r : List Int) : List Value := .int .i64 x :: .string s :: .int .i64 p :: .int .i64 q :: nums .i64 r
theorem snapC_length {x : Int} {s : ByteArray} {p q : Int} {r : List Int} (h : r.length = 15) : (snapC x s p q r).length = 19 := by simp [snapC, nums, h]
def magicS : List Int := [115, 110, 97, 112, 115, 104, 111, 116]
def snapGood (x c p q : Int) (r : List Int) : Bool := rng x 1 31 && (decide (c = 0) && (rng p 1 1099511627776 && (rng q 1 1099511627776 && (rootGood r && sizeI (r.getD 0 0)))))
theorem snapGood_get {x c p q : Int} {r : List Int} (h : snapGood x c p q r = true) : (1 ≤ x ∧ x ≤ 31) ∧ c = 0 ∧ (1 ≤ p ∧ p ≤ 1099511627776) ∧ (1 ≤ q ∧ q ≤ 1099511627776) ∧ rootGood r = true := by
  unfold snapGood at h
  simp only [Bool.and_eq_true, decide_eq_true_eq] at h
  obtain ⟨h1, h2, h3, h4, h5, _⟩ := h
  exact ⟨rng_of h1, h2, rng_of h3, rng_of h4, h5⟩
def nameB (s : ByteArray) : List Int := bytesOf s ++ List.replicate (26 - s.size) 0
def snapHead (x : Int) (s : ByteArray) : List Int := [magicS, leB x 1, leB (s.size : Int) 1, nameB s, leB 0 4].flatten
def snapBody (x : Int) (s : ByteArray) (p q : Int) (r : List Int) : List Int := [snapHead x s, leB p 8, leB q 8, rootBytes r].flatten
def snapFill (x : Int) (s : ByteArray) (p q : Int) (r : List Int) : List Int := snapBody x s p q r ++ List.replicate 388 0
def snapBytes (x : Int) (s : ByteArray) (p q : Int) (r : List Int) : List Int := snapFill x s p q r ++ leB (crcV (snapFill x s p q r)) 4
theorem nameB_length {s : ByteArray} (h : s.size ≤ 26) : (nameB s).length = 26 := by
  rw [nameB, List.length_append, bytesOf_length, List.length_replicate]
  omega
theorem snapHead_length {x : Int} {s : ByteArray} (h : s.size ≤ 26) : (snapHead x s).length = 40 := by
  simp [snapHead, magicS, leB_length, nameB_length h]
theorem snapBody_length {x : Int} {s : ByteArray} {p q : Int} {r : List Int} (h : s.size ≤ 26) (hr : r.length = 15) : (snapBody x s p q r).length = 120 := by
  simp [snapBody, snapHead_length h, leB_length, rootBytes_length hr]
theorem snapFill_length {x : Int} {s : ByteArray} {p q : Int} {r : List Int} (h : s.size ≤ 26) (hr : r.length = 15) : (snapFill x s p q r).length = 508 := by
  rw [snapFill, List.length_append, snapBody_length h hr, List.length_replicate]
theorem bytesOf_byt (s : ByteArray) : Byt (bytesOf s) := fun x hx => by
  unfold bytesOf at hx
  obtain ⟨b, _, rfl⟩ := List.mem_map.1 hx
  have := b.toNat_lt
  omega
theorem nameB_byt (s : ByteArray) : Byt (nameB s) := byt_append (bytesOf_byt s) (byt_zeros _)
theorem magicS_byt : Byt magicS := fun x hx => by
  unfold magicS at hx
  simp only [List.mem_cons, List.not_mem_nil, or_false] at hx
  omega
theorem snapHead_byt (x : Int) (s : ByteArray) : Byt (snapHead x s) := byt_flatten (fun y hy => by
  simp only [List.mem_cons, List.not_mem_nil, or_false] at hy
  rcases hy with rfl | rfl | rfl | rfl | rfl
  · exact magicS_byt
  · exact leB_byt _ _
  · exact leB_byt _ _
  · exact nameB_byt s
  · exact leB_byt _ _)
theorem snapBody_byt (x : Int) (s : ByteArray) (p q : Int) (r : List Int) : Byt (snapBody x s p q r) := byt_flatten (fun y hy => by
  simp only [List.mem_cons, List.not_mem_nil, or_false] at hy
  rcases hy with rfl | rfl | rfl | rfl
  · exact snapHead_byt x s
  · exact leB_byt _ _
  · exact leB_byt _ _
  · exact rootBytes_byt _)
theorem snapFill_byt (x : Int) (s : ByteArray) (p q : Int) (r : List Int) : Byt (snapFill x s p q r) := byt_append (snapBody_byt x s p q r) (byt_zeros _)
theorem snapBytes_byt (x : Int) (s : ByteArray) (p q : Int) (r : List Int) : Byt (snapBytes x s p q r) := byt_append (snapFill_byt x s p q r) (leB_byt _ _)
theorem snapC_size {x : Int} {s : ByteArray} {p q : Int} {r : List Int} (h : r.length = 15) : (snapC x s p q r).toArray.size = 19 := by simp [snapC, nums, h]
theorem snapC_root {x : Int} {s : ByteArray} {p q : Int} {r : List Int} (h : r.length = 15) : ((snapC x s p q r).toArray.toList.drop 4).take 15 = (nums .i64 r).toArray.toList := by
  show (nums .i64 r).take 15 = _
  rw [List.take_of_length_le (by simp [nums, h])]
theorem snapC_at4 {x : Int} {s : ByteArray} {p q : Int} {r : List Int} (h : r.length = 15) : (snapC x s p q r).toArray[4]? = some (.int .i64 (r.getD 0 0)) := by
  obtain ⟨y, ys, rfl⟩ : ∃ y ys, r = y :: ys := by
    cases r with
    | nil => simp at h
    | cons y ys => exact ⟨y, ys, rfl⟩
  rfl
theorem snapC_rcell {x : Int} {s : ByteArray} {p q : Int} {r : List Int} (h : r.length = 15) (i : Nat) (hi : i < 15) : (snapC x s p q r).toArray[4 + i]? = some (.int .i64 (r.getD i 0)) := by
  have e : (snapC x s p q r).toArray[4 + i]? = (nums .i64 r)[i]? := by
    rw [List.getElem?_toArray, show 4 + i = i + 1 + 1 + 1 + 1 by omega]
    rfl
  have hl : i < r.length := by omega
  rw [e]
  simp [nums, hl]
theorem snapC_one (x : Int) (s : ByteArray) (p q : Int) (r : List Int) : (snapC x s p q r).toArray.toList.all (·.oneCell') = true := by simp [snapC, nums, Value.oneCell']
theorem leB_zero : leB 0 4 = List.replicate 4 0 := by decide
theorem snap_puts {x : Int} {s : ByteArray} {p q : Int} {r Q0 Q1 Q2 Q3 Q4 Q5 Q6 Q7 : List Int} (hs : s.size ≤ 26) (hr : r.length = 15) (h0 : Q0 = List.replicate 512 0) (h1 : Q1 = Q0.take 0 ++ magicS ++ Q0.drop (0 + 8)) (h2 : Q2 = Q1.take (0 + 8) ++ leB x 1 ++ Q1.drop (0 + 8 + 1)) (h3 : Q3 = Q2.take (0 + 9) ++ leB (s.size : Int) 1 ++ Q2.drop (0 + 9 + 1))
    (h4 : Q4 = Q3.take 10 ++ bytesOf s ++ Q3.drop (10 + s.size)) (h5 : Q5 = Q4.take (0 + 40) ++ leB p 8 ++ Q4.drop (0 + 40 + 8)) (h6 : Q6 = Q5.take (0 + 48) ++ leB q 8 ++ Q5.drop (0 + 48 + 8)) (h7 : Q7 = Q6.take 56 ++ rootBytes r ++ Q6.drop (56 + 64)) : Q7 = snapBody x s p q r ++ List.replicate 392 0 := by
  have hb := bytesOf_length s
  have e1 : Q1 = magicS ++ List.replicate 504 0 := by
    rw [h1, h0]
    exact put_end [] magicS 0 8 512 0 rfl rfl (by decide) rfl
  have e2 : Q2 = (magicS ++ leB x 1) ++ List.replicate 503 0 := by
    rw [h2, e1]
    exact put_end magicS (leB x 1) 8 1 504 (0 + 8) rfl (leB_length _ _) (by decide) rfl
  have e3 : Q3 = ((magicS ++ leB x 1) ++ leB (s.size : Int) 1) ++ List.replicate 502 0 := by
    rw [h3, e2]
    exact put_end _ _ 9 1 503 (0 + 9) (by simp [magicS, leB_length]) (leB_length _ _) (by decide) rfl
  have l3 : ((magicS ++ leB x 1) ++ leB (s.size : Int) 1).length = 10 := by simp [magicS, leB_length]
  have e4 : Q4 = (((magicS ++ leB x 1) ++ leB (s.size : Int) 1) ++ bytesOf s) ++ List.replicate (502 - s.size) 0 := by
    rw [h4, e3]
    exact put_end _ _ 10 s.size 502 10 l3 hb (by omega) rfl
  have e5 := put_zeros (((magicS ++ leB x 1) ++ leB (s.size : Int) 1) ++ bytesOf s) (leB p 8) (10 + s.size) (30 - s.size) (502 - s.size) (0 + 40) 8 (by rw [List.length_append, l3, hb]) (leB_length _ _) (by omega) (by omega)
  rw [← e4, ← h5, show 502 - s.size - (30 - s.size) - 8 = 464 by omega] at e5
  have ez : bytesOf s ++ List.replicate (30 - s.size) 0 = nameB s ++ leB 0 4 := by
    rw [leB_zero, nameB, List.append_assoc, List.replicate_append_replicate, show 26 - s.size + 4 = 30 - s.size by omega]
  have e5' : Q5 = (snapHead x s ++ leB p 8) ++ List.replicate 464 0 := by
    rw [e5]
    have : (((magicS ++ leB x 1) ++ leB (s.size : Int) 1) ++ bytesOf s) ++ (List.replicate (30 - s.size) 0 ++ leB p 8) = snapHead x s ++ leB p 8 := by
      rw [← List.append_assoc, List.append_assoc ((magicS ++ leB x 1) ++ leB (s.size : Int) 1) (bytesOf s), ez]
      simp only [snapHead, List.flatten_cons, List.flatten_nil, List.append_nil, List.append_assoc]
    rw [this]
  have e6 : Q6 = ((snapHead x s ++ leB p 8) ++ leB q 8) ++ List.replicate 456 0 := by
    rw [h6, e5']
    exact put_end _ _ 48 8 464 (0 + 48) (by rw [List.length_append, snapHead_length hs, leB_length]) (leB_length _ _) (by decide) rfl
  rw [h7, e6, put_end _ _ 56 64 456 56 (by rw [List.length_append, List.length_append, snapHead_length hs, leB_length, leB_length]) (rootBytes_length hr) (by decide) rfl]
  simp only [snapBody, List.flatten_cons, List.flatten_nil, List.append_nil, List.append_assoc, Nat.reduceSub]
end Go.Proofs.YtknlpjoidjgciaaDoorW.PrintSnp
end
section
namespace Go.Proofs.YtknlpjoidjgciaaDoorW.PrintTab2
open Go Go.RowKit Go.Proofs.YtknlpjoidjgciaaDoorW.PrintWords Go.Proofs.YtknlpjoidjgciaaDoorW.PrintHand Go.Proofs.YtknlpjoidjgciaaDoorW.PrintHx Go.Proofs.YtknlpjoidjgciaaDoorW.PrintGrow
set_option linter.unusedVariables false
section
variable {P : Program} {ops : Array Oper} {rest : List Oper} {o : Oper} {a : Act} {w : World} {Q : Exit → Act → World → Prop}
theorem cp_str (hgd : o.guard = none) (d x : Operand) (dT sT : TypeId) (ho : o.op = .call { callee := .builtin .copy, args := #[d, x], argTypes := #[dT, sT] }) (elem : TypeId) (hu : P.underlying dT = some (.slice elem)) (hsz : (P.info? elem).map (·.size) = some 1)
    (g off dLen dCap : Nat) (s : ByteArray) (L : List Int) {t : TypeId} (hd : a.eval d = .slice (some ⟨g, off, none⟩) dLen dCap) (hs : a.eval x = .string s)
    (hg : w.heap[g]? = some (.cells (nums .u8 L).toArray t (0, 0))) (hfit : s.size ≤ dLen) (hfit2 : off + s.size ≤ L.length)
    (h : ∀ w', PrintHand.Touch g w w' → w'.heap[g]? = some (.cells (nums .u8 (L.take off ++ bytesOf s ++ L.drop (off + s.size))).toArray t (0, 0)) → wpList P ops Q rest (a.put o.dst (.int .i64 ((s.size : Nat) : Int))) w') : wpList P ops Q (o :: rest) a w := by
  refine wpList_plain hgd fun K hK => ?_
  have hr := Go.Lib.run_copy_row_string (P := P) w dT sT o.type elem g off dLen dCap s (nums .u8 L).toArray t hu hsz hg hfit (by simpa [nums] using hfit2)
  have e : ((nums .u8 L).toArray.toList.take off ++ Go.Lib.byteCells s.data.toList ++ (nums .u8 L).toArray.toList.drop (off + s.size)).toArray = (nums .u8 (L.take off ++ bytesOf s ++ L.drop (off + s.size))).toArray := by
    simp [nums, List.map_take, List.map_drop, Go.Lib.byteCells, bytesOf]
  obtain ⟨row, hrow⟩ : ∃ row, row = (nums .u8 (L.take off ++ bytesOf s ++ L.drop (off + s.size))).toArray := ⟨_, rfl⟩
  rw [e, ← hrow] at hr
  simp only [← hrow] at h
  clear hrow e
  unfold Oper.wp
  simp [execOp, ho, resolve, invoke, builtin, hd, hs, hr, Result.andThen]
  exact hK _ _ (h _ ⟨rfl, rfl, rfl, by simp [World.setRow], fun k hk => PrintHand.setRow_other hk⟩ (setRow_same hg))
theorem quiet_ld1 {Qq : Act → Prop} (hgd : o.guard = none) (ty : TypeId) (x : Operand) (ho : o.op = .load ty x) (g off : Nat) (hx : a.eval x = .pointer (some ⟨g, off, none⟩)) {t : TypeId} {cs : Array Value} {d : TypeDesc} (v : Value)
    (hu : P.underlying ty = some d) (hd : (match d with | .struct _ | .array _ _ => true | _ => false) = false) (hg : w.heap[g]? = some (.cells cs t (0, 0))) (hv : cs[off]? = some v)
    (h : wpQuiet P ops (fun w' => ∃ m, w' = w.drewN m) Qq rest (a.put o.dst v)) : wpQuiet P ops (fun w' => ∃ m, w' = w.drewN m) Qq (o :: rest) a := by
  refine wpQuiet_step (fun K hK => ?_)
  have hw : Region.wanted o (yielded ops a.tmps) = true := by simp [Region.wanted, hgd]
  rw [if_pos hw]
  refine ⟨v, ?_, hK _ h⟩
  rintro w' ⟨m, rfl⟩
  have hagg : (isAgg ty).run P (w.drewN m) = .ok false (w.drewN m) := by
    unfold isAgg
    rw [Sem.run_bind, run_underlying hu (w.drewN m)]
    cases d <;> simp_all
  have hc : (w.drewN m).cell? ⟨g, off, none⟩ = some v := (blk_cell (show (w.drewN m).heap[g]? = _ from hg) off).trans hv
  have hl : (loadVar ty ⟨g, off, none⟩).run P (w.drewN m) = .ok v (w.drewN m) := by
    unfold loadVar
    rw [Sem.run_bind, hagg]
    simp [hc]
  unfold Oper.quietAt execOp
  simp only [ho, hx, Instr.loadAt, Instr.sureAddr, Sem.run_bind, Sem.run_pure, Result.andThen_ok, hl]
  exact ⟨rfl, rfl⟩
end
end Go.Proofs.YtknlpjoidjgciaaDoorW.PrintTab2
end
section
namespace Go.Proofs.YtknlpjoidjgciaaDoorW.PrintSnd
open Go Go.RowKit Go.Proofs.YtknlpjoidjgciaaDoorW.PrintWords Go.Proofs.YtknlpjoidjgciaaDoorW.PrintHand Go.Proofs.YtknlpjoidjgciaaDoorW.PrintHx Go.Proofs.YtknlpjoidjgciaaDoorW.PrintLe Go.Proofs.YtknlpjoidjgciaaDoorW.PrintIno Go.Proofs.YtknlpjoidjgciaaDoorW.PrintDec Go.Proofs.YtknlpjoidjgciaaDoorW.PrintFsi Go.Proofs.YtknlpjoidjgciaaDoorW.PrintFsb Go.Proofs.YtknlpjoidjgciaaDoorW.PrintCrc Go.Proofs.YtknlpjoidjgciaaDoorW.PrintSnp Go.Proofs.YtknlpjoidjgciaaDoorW.PrintGrow
set_option linter.unusedVariables false
set_option linter.unusedSimpArgs false
theorem one_byte {l : List Int} (h : Byt l) (o : Nat) (ho : o < l.length) : wrap64 (le (seg l o 1)) = l.getD o 0 ∧ 0 ≤ l.getD o 0 ∧ l.getD o 0 ≤ 255 := by
  have e : seg l o 1 = [l.getD o 0] := by
    show (l.drop o).take 1 = _
    rw [List.drop_eq_getElem_cons ho, List.take_succ_cons, List.take_zero, List.getD_eq_getElem?_getD, List.getElem?_eq_getElem ho]
    rfl
  have hm : l.getD o 0 ∈ l := by
    rw [List.getD_eq_getElem?_getD, List.getElem?_eq_getElem ho]
    exact List.getElem_mem ho
  have hb := h _ hm
  refine ⟨?_, hb⟩
  rw [e, le_one]
  unfold wrap64
  omega
theorem u8_small (v : Int) (h0 : 0 ≤ v) (h1 : v < 256) : IntKind.u8.wrap v = v := by
  unfold IntKind.wrap
  simp [IntKind.signed, IntKind.bits]
  omega
def nameLen (l : List Int) : Nat := min (l.getD 9 0).toNat 26
def nameS (l : List Int) : ByteArray := strOfNums (seg l 10 (nameLen l))
theorem strOf_size (l : List Int) : (strOfNums l).size = l.length := by
  have h := congrArg List.length (strOf_list l)
  rw [List.length_map, ByteArray.toList_eq, Array.length_toList] at h
  exact h
theorem nameS_size {l : List Int} (h : l.length = 512) : (nameS l).size = nameLen l := by
  have := Nat.min_le_right (l.getD 9 0).toNat 26
  rw [nameS, strOf_size, seg_le _ _ (by unfold nameLen; omega)]
theorem nameLen_le (l : List Int) : nameLen l ≤ 26 := Nat.min_le_right _ _
theorem name_min {l : List Int} (h : 0 ≤ l.getD 9 0) : (if 26 < l.getD 9 0 then 26 else l.getD 9 0) = ((nameLen l : Nat) : Int) := by
  unfold nameLen
  split <;> omega
def decS (x : Int) (s : ByteArray) (p q : Int) (r : List Int) (c : Int) (l : List Int) : Int × ByteArray × Int × Int × List Int × Int := if l.length = 512 ∧ snapGood x c p q r = true ∧ snapBytes x s p q r = l then (x, s, p, q, r, 0) else (0, ByteArray.empty, 0, 0, List.replicate 15 0, 21)
def snapA (c : Int) (l : List Int) : Int × ByteArray × Int × Int × List Int × Int := decS (l.getD 8 0) (nameS l) (gcap (seg l 40 8)) (gcap (seg l 48 8)) (rootA (seg l 56 64)) c l
def snapB (c : Int) (l : List Int) : Int × ByteArray × Int × Int × List Int × Int := decS (l.getD 8 0) (nameS l) (wrap64 (le (seg l 40 8))) (wrap64 (le (seg l 48 8))) (rootB (seg l 56 64)) c l
theorem snap_same {l : List Int} (h : Byt l) (c : Int) : snapA c l = snapB c l := by
  unfold snapA snapB
  by_cases hl : l.length = 512
  · have s8 : ∀ o, o + 8 ≤ 512 → (seg l o 8).length ≤ 8 := fun o ho => by rw [seg_le _ _ (by omega)]; omega
    have hb := fun o m => seg_byt h o m
    by_cases hA : snapGood (l.getD 8 0) c (gcap (seg l 40 8)) (gcap (seg l 48 8)) (rootA (seg l 56 64)) = true
    · obtain ⟨_, _, h2, h3, h4⟩ := snapGood_get hA
      rw [cap_same (hb 40 8) (s8 40 (by omega)) h2.2, cap_same (hb 48 8) (s8 48 (by omega)) h3.2, root_sameA (hb 56 64) (seg_le _ _ (by omega)) h4]
    · by_cases hB : snapGood (l.getD 8 0) c (wrap64 (le (seg l 40 8))) (wrap64 (le (seg l 48 8))) (rootB (seg l 56 64)) = true
      · obtain ⟨_, _, h2, h3, h4⟩ := snapGood_get hB
        rw [wrap_same (hb 40 8) (s8 40 (by omega)) (by omega) h2.2, wrap_same (hb 48 8) (s8 48 (by omega)) (by omega) h3.2, root_sameB (hb 56 64) (seg_le _ _ (by omega)) h4]
      · unfold decS
        rw [if_neg (fun h_ => hA h_.2.1), if_neg (fun h_ => hB h_.2.1)]
  · unfold decS
    rw [if_neg (fun h_ => hl h_.1), if_neg (fun h_ => hl h_.1)]
theorem snap_nine (x : Int) (s : ByteArray) (p q : Int) (r : List Int) : (snapBytes x s p q r).getD 9 0 = (s.size : Int) % 256 := rfl
theorem snap_long {l : List Int} (hl : l.length = 512) (h9 : 26 < l.getD 9 0) (x p q : Int) (r : List Int) (c : Int) : decS x (nameS l) p q r c l = (0, ByteArray.empty, 0, 0, List.replicate 15 0, 21) := by
  unfold decS
  rw [if_neg]
  rintro ⟨_, _, he⟩
  have h1 := snap_nine x (nameS l) p q r
  rw [he, nameS_size hl] at h1
  have := nameLen_le l
  omega
theorem decS_root {x : Int} {s : ByteArray} {p q : Int} {r : List Int} {c : Int} {l : List Int} {x1 : Int} {s1 : ByteArray} {p1 q1 : Int} {r1 : List Int} {k1 : Int} (hr : r.length = 15) (h : decS x s p q r c l = (x1, s1, p1, q1, r1, k1)) : r1.length = 15 := by
  unfold decS at h
  split at h
  · obtain ⟨_, _, _, _, rfl, _⟩ := Prod.mk.inj h |>.imp id (fun h2 => Prod.mk.inj h2 |>.imp id fun h3 => Prod.mk.inj h3 |>.imp id fun h4 => Prod.mk.inj h4 |>.imp id fun h5 => Prod.mk.inj h5)
    exact hr
  · simp only [Prod.mk.injEq] at h
    obtain ⟨_, _, _, _, rfl, _⟩ := h
    simp
theorem snapZ_size : (snapC 0 ByteArray.empty 0 0 (List.replicate 15 0)).toArray.size = 19 := snapC_size (by simp)
end Go.Proofs.YtknlpjoidjgciaaDoorW.PrintSnd
end
section
namespace Go.Proofs.YtknlpjoidjgciaaDoorW.PrintRws
open Go Go.RowKit Go.Proofs.YtknlpjoidjgciaaDoorW.PrintWords Go.Proofs.YtknlpjoidjgciaaDoorW.PrintHand Go.Proofs.YtknlpjoidjgciaaDoorW.PrintHx
set_option linter.unusedVariables false
def cellsK (n : Nat) : Kd (List Value) where
  sz := n
  E := []
  K := fun _ x cs => cs = x ∧ x.length = n ∧ ∀ v ∈ x, v.oneCell' = true
  M := fun _ _ _ x cs => cs = x ∧ x.length = n ∧ ∀ v ∈ x, v.oneCell' = true
  K_len := fun h => by rw [h.1]; exact h.2.1
  K_one := fun h u hu => h.2.2 u (h.1 ▸ hu)
  K_below := fun _ h => h
  K_of_M := fun h => h
  M_mono := fun _ h => h
  M_bound := fun h => h
  M_move := fun _ h => h
  M_lower := fun _ h => h
theorem cl_at {n : Nat} {W : World} {A : Option Addr} {len : Nat} {xs : List (List Value)} (h : Kd.C (cellsK n) W A len xs) (j : Nat) (hj : j < len) :
    ∃ ad, A = some ad ∧ (xs.getD j []).length = n ∧ ∀ i u, (xs.getD j [])[i]? = some u → W.cell? (ad.add (j * n + i)) = some u := by
  obtain ⟨ad, c, he, hl, ⟨h1, h2, _⟩, h3⟩ := ReadsRow.get_ h [] (j : Int) (by omega) (by omega)
  rw [Int.toNat_natCast] at h1 h2 h3
  exact ⟨ad, he, h2, fun i u hu => h3 i u (by rw [h1]; exact hu)⟩
section
variable {P : Program} {ops : Array Oper} {rest : List Oper} {o : Oper} {a : Act} {w : World} {Q : Exit → Act → World → Prop}
theorem run_load_cells (w : World) (ty : TypeId) (ad : Addr) (L : List Value) (n : Nat) (d : TypeDesc) (hu : P.underlying ty = some d) (hd : (match d with | .struct _ | .array _ _ => true | _ => false) = true) (hi : (P.info? ty).map (·.size) = some n) (hL : L.length = n)
    (hc : ∀ i u, L[i]? = some u → w.cell? (ad.add i) = some u) : (loadVar ty ad).run P w = .ok (.agg L.toArray) w := by
  have hl : (loadCells ad L.length).run P w = .ok L.toArray w := run_loadCells_list (P := P) w ad L (fun j v hv => hc j v hv)
  cases hq : P.info? ty with
  | none => simp [hq] at hi
  | some i =>
    have hs : i.size = n := by simpa [hq] using hi
    have hagg : (isAgg ty).run P w = .ok true w := by
      unfold isAgg
      rw [Sem.run_bind, run_underlying hu w]
      cases d <;> simp_all
    rw [hL] at hl
    simp [loadVar, Sem.run_bind, hagg, sizeOf, typeInfo, hq, hs, hl]
theorem hx_load_c (hgd : o.guard = none) (ty : TypeId) (x : Operand) (ho : o.op = .load ty x) (ad : Addr) (hx : a.eval x = .pointer (some ad)) {d : TypeDesc} (L : List Value) (n : Nat)
    (hu : P.underlying ty = some d) (hd : (match d with | .struct _ | .array _ _ => true | _ => false) = true) (hi : (P.info? ty).map (·.size) = some n) (hL : L.length = n)
    (hc : ∀ i u, L[i]? = some u → w.cell? (ad.add i) = some u)
    (h : wpList P ops Q rest (a.put o.dst (.agg L.toArray)) w) : wpList P ops Q (o :: rest) a w := by
  refine wpList_plain hgd fun K hK => ?_
  unfold Oper.wp execOp
  simp only [ho, hx, Instr.loadAt, Instr.sureAddr, Sem.run_bind, Sem.run_pure, Result.andThen_ok, run_load_cells w ty ad L n d hu hd hi hL hc]
  exact hK _ _ h
theorem quiet_load_c {Qq : Act → Prop} (hgd : o.guard = none) (ty : TypeId) (x : Operand) (ho : o.op = .load ty x) (ad : Addr) (hx : a.eval x = .pointer (some ad)) {d : TypeDesc} (L : List Value) (n : Nat)
    (hu : P.underlying ty = some d) (hd : (match d with | .struct _ | .array _ _ => true | _ => false) = true) (hi : (P.info? ty).map (·.size) = some n) (hL : L.length = n)
    (hc : ∀ i u, L[i]? = some u → w.cell? (ad.add i) = some u)
    (h : wpQuiet P ops (fun w' => ∃ m, w' = w.drewN m) Qq rest (a.put o.dst (.agg L.toArray))) : wpQuiet P ops (fun w' => ∃ m, w' = w.drewN m) Qq (o :: rest) a := by
  refine wpQuiet_step (fun K hK => ?_)
  have hw : Region.wanted o (yielded ops a.tmps) = true := by simp [Region.wanted, hgd]
  rw [if_pos hw]
  refine ⟨.agg L.toArray, ?_, hK _ h⟩
  rintro w' ⟨m, rfl⟩
  have hr := run_load_cells (P := P) (w.drewN m) ty ad L n d hu hd hi hL (fun i u hi => hc i u hi)
  unfold Oper.quietAt execOp
  simp only [ho, hx, Instr.loadAt, Instr.sureAddr, Sem.run_bind, Sem.run_pure, Result.andThen_ok, hr]
  exact ⟨rfl, rfl⟩
theorem hx_putc {n : Nat} {w0 : World} (base : Nat) (hN : o.dst = none) (hgd : o.guard = none) (t : TypeId) (p x : Operand) (ho : o.op = .store t p x) (e : TypeId) {g m cap off : Nat} (j f : Nat) (xs : List (List Value)) (v : Value) (ok : Nat → Prop)
    (haddr : a.eval p = .pointer (some ⟨g, off, none⟩)) (hoff : off = j * n + f) (hx : a.eval x = v) (hv : v.cells = #[v]) (hv1 : v.oneCell' = true) (ht : (P.info? t).map (·.size) = some 1) (hf : f < n) (hm : m = xs.length)
    (HO : (cellsK n).R e w base ok (.slice (some ⟨g, 0, none⟩) m cap) xs) (hj : j < xs.length) (HB : Below base w0 w)
    (h : ∀ w1, (cellsK n).R e w1 base ok (.slice (some ⟨g, 0, none⟩) m cap) (xs.set j ((xs.getD j []).set f v)) → Below base w0 w1 → w.grownBy w1 (some g) → wpList P ops Q rest a w1) : wpList P ops Q (o :: rest) a w := by
  subst hm
  obtain ⟨c, hcl, hM, hcc, _⟩ := Kd.R_elem HO [] (j : Int) (by omega) (by omega)
  rw [Int.toNat_natCast] at hM
  have hcl' : c.length = n := hcl
  refine Kd.R_store (cellsK n) (w0 := w0) base hN hgd t p x ho e (j : Int) f xs ((xs.getD j []).set f v) v [v] c ok (fun k => ok k ∧ k ≠ g) haddr (by rw [hoff, Int.toNat_natCast]; rfl) hx (by rw [hv]) ht (fun q hq => ?_) HO (by omega) (by omega) hcl hcc (show f + 1 ≤ n by omega) ?_ (fun k hk => hk) HB (fun w1 h1 h2 h3 => h w1 (by rw [Int.toNat_natCast] at h1; exact h1) h2 h3)
  · rw [List.mem_singleton.1 hq]
    exact hv1
  · obtain ⟨h1, h2, h3⟩ := hM
    refine ⟨?_, by rw [List.length_set]; exact h2, fun q hq => ?_⟩
    · rw [h1, List.set_eq_take_append_cons_drop, if_pos (by rw [h2]; exact hf)]
      simp
    · rcases List.mem_or_eq_of_mem_set hq with hq | rfl
      · exact h3 q hq
      · exact hv1
end
section
open Go.Maps
variable {P : Program}
theorem bool_inv {e : TypeId} (he : P.underlying e = some .bool) {v : Value} {z : DataW Unit × List MemPlace} (h : plainElem P e v = some z) : ∃ x, v = .bool x ∧ z = (.lit (.bool x), []) := by
  unfold plainElem at h
  rw [he] at h
  cases v <;> simp at h
  exact ⟨_, rfl, h.symm⟩
theorem lookup_bool {w : World} {b n : Nat} {D : DataW Unit} {k t e : TypeId} (h : w.ownsMap P k (plainElem P e) b n D) (K : Keyed P k) (ht : P.underlying t = some (.map k e)) (he : P.underlying e = some .bool) (hz : (zeroValue e).run P w = .ok (.bool false) w)
    {key : Value} {kl : Lit} (hkey : keyOf P k key = some kl) (c : Bool) (hc : D.atKey kl (.lit (.bool false)) = .lit (.bool c)) : (Instr.lookup t (.map (some b)) key false).run P w = .ok (.bool c) w := by
  obtain ⟨v, ps, hrun, hv⟩ := h.lookup K ht hz (plainElem_bool he false) hkey
  obtain ⟨x, rfl, hx⟩ := bool_inv he hv
  simp only [Prod.mk.injEq] at hx
  rw [hc] at hx
  have : c = x := by simpa using hx.1
  rw [this]
  exact hrun
def nameL (s : ByteArray) : Lit := .string s.data.toList
def setB (l : List ByteArray) : DataW Unit := setOf (.lit (.bool true)) (l.map nameL)
theorem nameL_key (s : ByteArray) : WideAt.IsKeyLit (nameL s) := trivial
def memB (s : ByteArray) (l : List ByteArray) : Bool := l.any (fun x => x.toList == s.toList)
theorem setB_at (s : ByteArray) : ∀ l : List ByteArray, (setB l.reverse).atKey (nameL s) (.lit (.bool false)) = .lit (.bool (memB s l))
  | [] => rfl
  | x :: l => by
    have ih := setB_at s l
    have hD : IsMap (setB l.reverse) := (tidy_setOf _ _ (fun y hy => by
      obtain ⟨z, _, rfl⟩ := List.mem_map.1 hy
      exact nameL_key z)).isMap
    unfold setB at ih hD ⊢
    rw [List.reverse_cons, List.map_append, List.map_cons, List.map_nil, setOf_snoc]
    by_cases h : x.toList = s.toList
    · have e : nameL x = nameL s := by
        unfold nameL
        rw [← ByteArray.toList_eq, ← ByteArray.toList_eq, h]
      rw [e, atKey_put_same hD (nameL_key s)]
      simp [memB, h]
    · rw [atKey_put_other (fun e => h (by
        unfold nameL at e
        rw [← ByteArray.toList_eq, ← ByteArray.toList_eq] at e
        injection e with e
        exact e.symm)), ih]
      simp [memB, h]
theorem setB_look (s : ByteArray) (l : List ByteArray) : (setB l).atKey (nameL s) (.lit (.bool false)) = .lit (.bool (memB s l)) := by
  have h := setB_at s l.reverse
  rw [List.reverse_reverse] at h
  rw [h]
  simp [memB]
theorem setB_snoc (l : List ByteArray) (s : ByteArray) : setB (l ++ [s]) = (setB l).put (nameL s) (.lit (.bool true)) := by
  unfold setB
  rw [List.map_append, List.map_cons, List.map_nil, setOf_snoc]
end
end Go.Proofs.YtknlpjoidjgciaaDoorW.PrintRws
end
section
namespace Go.Proofs.YtknlpjoidjgciaaDoorW.PrintDoor
open Go Go.RowKit Go.Proofs.YtknlpjoidjgciaaDoorW.PrintWords Go.Proofs.YtknlpjoidjgciaaDoorW.PrintHand Go.Proofs.YtknlpjoidjgciaaDoorW.PrintHx
set_option linter.unusedVariables false
theorem tab_reads {P : Program} {W : World} {name : String} {k : IntKind} {zs : List Int} {g : Nat} (h : Lib.TabIs P W name k zs) (hg : P.globalNamed name = some g) (hm : zs.length ≤ 9223372036854775807) : Kd.C (Kd.int k) W (some ⟨g, 0, none⟩) zs.length zs := by
  refine ⟨rfl, hm, fun _ => ⟨_, rfl, fun j p hj => ⟨[.int k p], rfl, rfl, fun i u hi => ?_⟩⟩⟩
  have hi0 : i = 0 := by
    have := (List.getElem?_eq_some_iff.1 hi).1
    simpa using this
  subst hi0
  have hu : u = .int k p := by simpa using hi.symm
  subst hu
  have hjl := (List.getElem?_eq_some_iff.1 hj).1
  have ha : (⟨g, 0, none⟩ : Addr).add (j * (Kd.int k).sz + 0) = ⟨g, j, none⟩ := by
    show (⟨g, 0, none⟩ : Addr).add (j * 1 + 0) = _
    rw [add_plain]
    simp
  rw [ha]
  have hc := h.cell hg j hjl
  rw [List.getD_eq_getElem?_getD, hj] at hc
  exact hc
end Go.Proofs.YtknlpjoidjgciaaDoorW.PrintDoor
end
