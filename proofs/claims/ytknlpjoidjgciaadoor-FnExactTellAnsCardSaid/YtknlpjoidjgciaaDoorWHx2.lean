/- What a row's reading says of a struct or an array of whole numbers: one list. No condition. -/
import Derived.Test.YtknlpjoidjgciaaDoorWHx
import Derived.Test.YtknlpjoidjgciaaDoorWOpen
namespace Go.Proofs.YtknlpjoidjgciaaDoorW.PrintHx
open Go.RowKit Go.Proofs.YtknlpjoidjgciaaDoorW.PrintWords Go.Proofs.YtknlpjoidjgciaaDoorW.PrintOpen Go.WideShapes
set_option linter.unusedVariables false
section
variable {P : Program} {W : World}
def Wf (n : Nat) (x : List Int) : Prop := x.length = n ∧ ∀ y ∈ x, (Lit.int .i64 y).wf = true
theorem opens_wide1 {t : TypeId} (hu : P.underlying t = some (.int .i64)) : Opens P W t (wide 1) (Wf 1) := by
  intro H enc base spare held fuel cs dat h
  obtain ⟨n, rfl, _, hw⟩ := DataW.trod_int hu h
  exact ⟨[n], ⟨rfl, rfl⟩, rfl, by simpa using hw⟩
theorem opensT_wide1 {a : Nat} {t : TypeId} {o o' : Nat} (ho : o' = o) (hc : P.cellsOf t = a) (h : Opens P W t (wide a) (Wf a)) : OpensT P W [(t, o')] o (wide a) (Wf a) := opensT_one ho hc h
theorem opensT_widec {a b : Nat} {t : TypeId} {o o' : Nat} {l : List (TypeId × Nat)} (ho : o' = o) (hc : P.cellsOf t = a) (h : Opens P W t (wide a) (Wf a)) (h' : OpensT P W l (o + a) (wide b) (Wf b)) : OpensT P W ((t, o') :: l) o (wide (a + b)) (Wf (a + b)) := by
  have hp : OpensT P W ((t, o') :: l) o (Kd.pair (wide a) (wide b)) (fun x => Wf a x.1 ∧ Wf b x.2) := opensT_cons ho hc h h'
  intro H enc base spare held n cs ha hl
  obtain ⟨x, ⟨c0, c1, he, h0, h1⟩, g0, g1⟩ := hp H enc base spare held n cs ha hl
  refine ⟨x.1 ++ x.2, ⟨by rw [List.length_append, h0.1, h1.1], ?_⟩, by rw [List.length_append, h0.1, h1.1], fun y hy => ?_⟩
  · rw [he, h0.2, h1.2]
    simp [nums]
  · rcases List.mem_append.1 hy with hy | hy
    · exact g0.2 y hy
    · exact g1.2 y hy
theorem opensT_same {a : Nat} {t : TypeId} (hc : P.cellsOf t = a) (h : Opens P W t (wide a) (Wf a)) : ∀ (m o : Nat), OpensT P W ((List.range (m + 1)).map (fun i => (t, o + i * a))) o (wide ((m + 1) * a)) (Wf ((m + 1) * a))
  | 0, o => by
    have := opensT_wide1 (P := P) (W := W) (o := o) (o' := o) rfl hc h
    simpa using this
  | m + 1, o => by
    have ih := opensT_same hc h m (o + a)
    have := opensT_widec (P := P) (W := W) (o := o) (o' := o) rfl hc h ih
    have e : (List.range (m + 1 + 1)).map (fun i => (t, o + i * a)) = (t, o) :: (List.range (m + 1)).map (fun i => (t, (o + a) + i * a)) := by
      rw [List.range_succ_eq_map, List.map_cons, List.map_map]
      simp only [Nat.zero_mul, Nat.add_zero, List.cons.injEq, true_and]
      apply List.map_congr_left
      intro i _
      simp only [Function.comp, Nat.succ_eq_add_one, Nat.add_mul, Nat.one_mul, Prod.mk.injEq, true_and]
      omega
    rw [e, show (m + 1 + 1) * a = a + (m + 1) * a by rw [Nat.add_mul (m + 1), Nat.one_mul, Nat.add_comm]]
    exact this
theorem opens_widea {a m : Nat} {t e : TypeId} (hu : P.underlying t = some (.array (m + 1) e)) (hc : P.cellsOf t = (m + 1) * a) (he : P.cellsOf e = a) (h : Opens P W e (wide a) (Wf a)) : Opens P W t (wide ((m + 1) * a)) (Wf ((m + 1) * a)) := by
  have hT := opensT_same he h m 0
  refine opens_array (l := (List.range (m + 1)).map (fun i => (e, 0 + i * a))) hu ?_ hc hT
  apply List.map_congr_left
  intro i _
  rw [he, Nat.zero_add]
end
end Go.Proofs.YtknlpjoidjgciaaDoorW.PrintHx
