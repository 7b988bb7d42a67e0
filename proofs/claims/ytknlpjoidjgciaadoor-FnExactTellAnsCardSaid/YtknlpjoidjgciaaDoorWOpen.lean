/- What a row's reading of an argument ('DataW.trod') says of its cells, kind by kind: whole numbers, bools, strings, slices, structs, arrays. No condition. -/
import Derived.Test.YtknlpjoidjgciaaDoorWWords
import Derived.ChangeArms
import Derived.OpenShut
import Derived.WideShapes
import Derived.Deep.Slices
namespace Go.Proofs.YtknlpjoidjgciaaDoorW.PrintOpen
open Go.RowKit Go.Proofs.YtknlpjoidjgciaaDoorW.PrintWords Go.WideShapes
set_option linter.unusedVariables false
section
variable {P : Program} {W : World}
/-- Cells that read as data of type t are those of some x of kind d, and G says what is known of x. -/
def Opens {α : Type} (P : Program) (W : World) (t : TypeId) (d : Kd α) (G : α → Prop) : Prop :=
  ∀ (H : Type) (enc : TypeId × Value → H) (base : Nat) (spare : Nat → Bool) (held : Bool) (fuel : Nat) (cs : List Value) (dat : DataW H × List MemPlace),
    DataW.trod enc P W base spare held fuel t cs = some dat → ∃ x, d.K W x cs ∧ G x
theorem opens_int {t : TypeId} {k : IntKind} (hu : P.underlying t = some (.int k)) : Opens P W t (Kd.int k) (fun x => (Lit.int k x).wf = true) := by
  intro H enc base spare held fuel cs dat h
  obtain ⟨n, rfl, _, hw⟩ := DataW.trod_int hu h
  exact ⟨n, rfl, hw⟩
theorem opens_bool {t : TypeId} (hu : P.underlying t = some .bool) : Opens P W t Kd.bool (fun _ => True) := by
  intro H enc base spare held fuel cs dat h
  obtain ⟨b, rfl, _⟩ := DataW.trod_bool hu h
  exact ⟨b, rfl, trivial⟩
theorem opens_string {t : TypeId} (hu : P.underlying t = some .string) : Opens P W t Kd.string (fun s => s.size ≤ maxLen) := by
  intro H enc base spare held fuel cs dat h
  obtain ⟨s, rfl, _, hs⟩ := DataW.trod_string hu h
  exact ⟨s, rfl, hs⟩
theorem choose_upto {α : Type} {p : Nat → α → Prop} : ∀ (n : Nat), (∀ i, i < n → ∃ x, p i x) → ∃ xs : List α, xs.length = n ∧ ∀ i x, xs[i]? = some x → p i x
  | 0, _ => ⟨[], rfl, fun i x h => by simp at h⟩
  | n + 1, h => by
    obtain ⟨xs, hl, hp⟩ := choose_upto n (fun i hi => h i (by omega))
    obtain ⟨x, hx⟩ := h n (by omega)
    refine ⟨xs ++ [x], by simp [hl], fun i y hy => ?_⟩
    rcases Nat.lt_trichotomy i n with hi | hi | hi
    · rw [List.getElem?_append_left (by omega)] at hy
      exact hp i y hy
    · subst hi
      rw [List.getElem?_append_right (by omega), hl, Nat.sub_self] at hy
      simp only [List.getElem?_cons_zero, Option.some.injEq] at hy
      exact hy ▸ hx
    · rw [List.getElem?_eq_none (by simp [hl]; omega)] at hy
      cases hy
theorem opens_slice {α : Type} {t e : TypeId} {d : Kd α} {G : α → Prop} (hu : P.underlying t = some (.slice e)) (hc : P.cellsOf e = d.sz) (h : Opens P W e d G) :
    Opens P W t (Kd.slice e d) (fun xs => xs.length ≤ maxLen ∧ ∀ x ∈ xs, G x) := by
  intro H enc base spare held fuel cs dat hd
  rcases Go.Deep.open_slice hu hd with ⟨rfl, _⟩ | ⟨a, len, cap, m, n, D, Pl, rfl, hb, hl, hm, hmm, _, hx⟩
  · refine ⟨[], ⟨none, 0, rfl, Nat.le_refl _, Kd.C_nil _ _⟩, by simp, fun x hx => by cases hx⟩
  · have hlm : len ≤ m := by rw [hmm]; split <;> omega
    obtain ⟨xs, hxl, hp⟩ := choose_upto (p := fun i x => ∃ c : List Value, c.length = d.sz ∧ d.K W x c ∧ G x ∧ ∀ j u, c[j]? = some u → W.cell? (a.add (i * d.sz + j)) = some u) len (fun i hi => by
      obtain ⟨c, h1, h2⟩ := hx i (by omega)
      obtain ⟨x, hk, hg⟩ := h H enc base spare held n c _ h2
      obtain ⟨_, hcl, hcells⟩ := World.cells?_some h1
      rw [hc] at hcl hcells
      refine ⟨x, c, hcl, hk, hg, fun j u hu => ?_⟩
      have hj : j < d.sz := by rw [← hcl]; exact (List.getElem?_eq_some_iff.1 hu).1
      have := hcells j hj
      rw [hu, Addr.add_add] at this
      exact this)
    refine ⟨xs, ⟨some a, cap, by rw [hxl], by omega, ⟨rfl, by simp only [maxLen] at hm; omega, fun _ => ⟨a, rfl, fun j p hj => ?_⟩⟩⟩, by omega, fun x hx => ?_⟩
    · obtain ⟨c, h1, h2, _, h4⟩ := hp j p hj
      exact ⟨c, h1, h2, h4⟩
    · obtain ⟨i, hi⟩ := List.mem_iff_getElem?.1 hx
      obtain ⟨c, _, _, h3, _⟩ := hp i x hi
      exact h3
/-- The fields (type, offset) of a struct, or the elements of an array, from cell o on. -/
def OpensT {α : Type} (P : Program) (W : World) (l : List (TypeId × Nat)) (o : Nat) (d : Kd α) (G : α → Prop) : Prop :=
  ∀ (H : Type) (enc : TypeId × Value → H) (base : Nat) (spare : Nat → Bool) (held : Bool) (n : Nat) (cs : List Value),
    (∀ p ∈ l, ∃ dat, DataW.trod enc P W base spare held n p.1 ((cs.drop p.2).take (P.cellsOf p.1)) = some dat) → cs.length = o + d.sz → ∃ x, d.K W x (cs.drop o) ∧ G x
theorem opensT_one {α : Type} {t : TypeId} {o o' : Nat} {d : Kd α} {G : α → Prop} (ho : o' = o) (hc : P.cellsOf t = d.sz) (h : Opens P W t d G) : OpensT P W [(t, o')] o d G := by
  subst ho
  intro H enc base spare held n cs ha hl
  obtain ⟨dat, hd⟩ := ha _ (List.mem_singleton.2 rfl)
  obtain ⟨x, hk, hg⟩ := h H enc base spare held n _ _ hd
  rw [hc, List.take_of_length_le (by rw [List.length_drop]; omega)] at hk
  exact ⟨x, hk, hg⟩
theorem opensT_cons {α β : Type} {t : TypeId} {o o' : Nat} {l : List (TypeId × Nat)} {d : Kd α} {d' : Kd β} {G : α → Prop} {G' : β → Prop} (ho : o' = o) (hc : P.cellsOf t = d.sz) (h : Opens P W t d G) (h' : OpensT P W l (o + d.sz) d' G') :
    OpensT P W ((t, o') :: l) o (Kd.pair d d') (fun x => G x.1 ∧ G' x.2) := by
  subst ho
  intro H enc base spare held n cs ha hl
  obtain ⟨dat, hd⟩ := ha _ (List.mem_cons_self ..)
  obtain ⟨x, hk, hg⟩ := h H enc base spare held n _ _ hd
  have hl2 : cs.length = o' + (d.sz + d'.sz) := hl
  obtain ⟨y, hk', hg'⟩ := h' H enc base spare held n cs (fun p hp => ha p (List.mem_cons_of_mem _ hp)) (by omega)
  refine ⟨(x, y), ⟨(cs.drop o').take (P.cellsOf t), cs.drop (o' + d.sz), ?_, hk, hk'⟩, hg, hg'⟩
  rw [hc, ← List.drop_drop, List.take_append_drop]
theorem opens_struct {α : Type} {t : TypeId} {fs : Array Field} {l : List (TypeId × Nat)} {d : Kd α} {G : α → Prop} (hu : P.underlying t = some (.struct fs)) (hl : fs.toList.map (fun f => (f.type, f.offset)) = l) (hc : P.cellsOf t = d.sz) (h : OpensT P W l 0 d G) : Opens P W t d G := by
  intro H enc base spare held fuel cs dat hd
  obtain ⟨xs, n, _, _, hcs, hxl, hx⟩ := DataW.trod_struct hu hd
  obtain ⟨x, hk, hg⟩ := h H enc base spare held n cs (fun p hp => by
    rw [← hl] at hp
    obtain ⟨f, hf, rfl⟩ := List.mem_map.1 hp
    obtain ⟨i, hi⟩ := List.mem_iff_getElem?.1 hf
    have hi' : fs[i]? = some f := by rw [Array.getElem?_toList] at hi; exact hi
    have hlt : i < xs.length := by rw [hxl]; exact (Array.getElem?_eq_some_iff.1 hi').1
    have := hx i f hi'
    rw [List.getElem?_eq_getElem hlt] at this
    exact ⟨_, this⟩) (by rw [hcs, hc]; omega)
  rw [List.drop_zero] at hk
  exact ⟨x, hk, hg⟩
theorem opens_array {α : Type} {t e : TypeId} {m : Nat} {l : List (TypeId × Nat)} {d : Kd α} {G : α → Prop} (hu : P.underlying t = some (.array m e)) (hl : (List.range m).map (fun i => (e, i * P.cellsOf e)) = l) (hc : P.cellsOf t = d.sz) (h : OpensT P W l 0 d G) : Opens P W t d G := by
  intro H enc base spare held fuel cs dat hd
  obtain ⟨xs, n, _, _, hcs, hxl, hx⟩ := DataW.trod_array hu hd
  obtain ⟨x, hk, hg⟩ := h H enc base spare held n cs (fun p hp => by
    rw [← hl] at hp
    obtain ⟨i, hi, rfl⟩ := List.mem_map.1 hp
    have hi' := List.mem_range.1 hi
    have := hx i hi'
    rw [List.getElem?_eq_getElem (show i < xs.length by omega)] at this
    exact ⟨_, this⟩) (by rw [hcs, hc]; omega)
  rw [List.drop_zero] at hk
  exact ⟨x, hk, hg⟩
theorem opens_iso {α β : Type} {t : TypeId} {d : Kd α} {f : β → α} {G : α → Prop} {G' : β → Prop} (h : Opens P W t d G) (hf : ∀ a, ∃ b, f b = a) (hG : ∀ b, G (f b) → G' b) : Opens P W t (Kd.iso d f) G' := by
  intro H enc base spare held fuel cs dat hd
  obtain ⟨x, hk, hg⟩ := h H enc base spare held fuel cs dat hd
  obtain ⟨b, rfl⟩ := hf x
  exact ⟨b, hk, hG b hg⟩
/-- The value of an argument whose type is a struct or an array. -/
theorem opens_agg {α : Type} {H : Type} {enc : TypeId × Value → H} {w : World} {r : Reach} {b0 base : Nat} {spare : Nat → Bool} {held : Bool} {t : TypeId} {v : Value} {dat : DataW H} {p : List MemPlace} {d : Kd α} {G : α → Prop} {fs : Array Field}
    (ho : Opens P W t d G) (hu : P.underlying t = some (.struct fs)) (hv : Value.okWide P w r b0 t v) (h : DataW.Trod enc P W base spare held t v dat p) : ∃ (x : α) (cs : List Value), v = .agg cs.toArray ∧ d.K W x cs ∧ G x := by
  obtain ⟨cs, rfl, _⟩ := okWide_struct hu hv
  obtain ⟨fuel, hf⟩ := h
  obtain ⟨x, hk, hg⟩ := ho H enc base spare held fuel _ _ hf
  exact ⟨x, cs.toList, by simp, hk, hg⟩
theorem opens_slice_val {α : Type} {H : Type} {enc : TypeId × Value → H} {w : World} {r : Reach} {b0 base : Nat} {spare : Nat → Bool} {held : Bool} {t e : TypeId} {v : Value} {dat : DataW H} {p : List MemPlace} {d : Kd α} {G : List α → Prop}
    (ho : Opens P W t (Kd.slice e d) G) (hu : P.underlying t = some (.slice e)) (hv : Value.okWide P w r b0 t v) (h : DataW.Trod enc P W base spare held t v dat p) :
    ∃ (x : List α) (A : Option Addr) (c : Nat), v = .slice A x.length c ∧ x.length ≤ c ∧ d.C W A x.length x ∧ G x := by
  obtain ⟨a, len, cap, rfl⟩ := okWide_slice hu hv
  obtain ⟨fuel, hf⟩ := h
  obtain ⟨x, ⟨A, c, he, hl, hC⟩, hg⟩ := ho H enc base spare held fuel _ _ hf
  have he' : [Value.slice a len cap] = [Value.slice A x.length c] := by simpa [Value.cells] using he
  simp only [List.cons.injEq, Value.slice.injEq, and_true] at he'
  obtain ⟨rfl, rfl, rfl⟩ := he'
  exact ⟨x, a, cap, rfl, hl, hC, hg⟩
end
end Go.Proofs.YtknlpjoidjgciaaDoorW.PrintOpen
