/- A variable set behind four new blocks. No condition. -/
import Derived.Test.YtknlpjoidjgciaaDoorWHxS
import Derived.LaidEql
import Derived.Stop.Asserts
import Derived.RowKitTokens
namespace Go.Proofs.YtknlpjoidjgciaaDoorW.PrintHx
open Go Go.RowKit Go.Proofs.YtknlpjoidjgciaaDoorW.PrintWords Go.Proofs.YtknlpjoidjgciaaDoorW.PrintHand
set_option linter.unusedVariables false
theorem ea_kept {B : Nat} {w w1 : World} (hb : Below B w w1) {ad : Addr} {v : Value} (h : w.cell? ad = some v) (hB : ad.block < B) : w1.cell? ad = some v := by
  unfold World.cell? at h ⊢
  rw [hb.block _ hB]
  exact h
theorem ea_lt {w : World} {ad : Addr} {v : Value} (h : w.cell? ad = some v) : ad.block < w.heap.size := by
  rcases Nat.lt_or_ge ad.block w.heap.size with h1 | h1
  · exact h1
  · simp [World.cell?, Array.getElem?_eq_none h1] at h
theorem ea_thaw {w : World} {g : Nat} {cs : Array Value} {t : TypeId} (h : w.heap[g]? = some (.cells cs t (0, 0))) (i : Nat) : w.frozen? ⟨g, i, none⟩ = false := by
  simp [World.frozen?, h]
theorem ea_cell {w w2 : World} {o1 o2 o3 o4 : Obj} {g : Nat} {v u : Value} {t : TypeId} (hw : w2 = ((((w.alloc o1).alloc o2).alloc o3).alloc o4).setCell ⟨g, 0, none⟩ u) (h : w.heap[g]? = some (.cells #[v] t (0, 0))) (hg : g < w.heap.size) : w2.cell? ⟨g, 0, none⟩ = some u := by
  rw [hw]
  apply World.cell?_setCell_same
  show _ = some v
  rw [World.cell?_alloc_lt _ _ ⟨g, 0, none⟩ (by simp; omega), World.cell?_alloc_lt _ _ ⟨g, 0, none⟩ (by simp; omega), World.cell?_alloc_lt _ _ ⟨g, 0, none⟩ (by simp; omega), World.cell?_alloc_lt _ _ ⟨g, 0, none⟩ hg]
  exact blk_cell h 0
theorem ea_below {w0 w w2 : World} {o1 o2 o3 o4 : Obj} {g B : Nat} {u : Value} (hw : w2 = ((((w.alloc o1).alloc o2).alloc o3).alloc o4).setCell ⟨g, 0, none⟩ u) (hb : Below B w0 w) (hg : B ≤ g) (hB : B ≤ w.heap.size) : Below B w0 w2 := by
  rw [hw]
  have h1 := hb.alloc hB o1
  have s1 : B ≤ (w.alloc o1).heap.size := by simp; omega
  have h2 := h1.alloc s1 o2
  have s2 : B ≤ ((w.alloc o1).alloc o2).heap.size := by simp; omega
  have h3 := h2.alloc s2 o3
  have s3 : B ≤ (((w.alloc o1).alloc o2).alloc o3).heap.size := by simp; omega
  exact Below.setCell (h3.alloc s3 o4) hg u
end Go.Proofs.YtknlpjoidjgciaaDoorW.PrintHx
