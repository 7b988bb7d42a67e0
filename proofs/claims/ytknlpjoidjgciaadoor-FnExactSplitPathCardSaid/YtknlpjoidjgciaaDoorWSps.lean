/- Rows of strings: a block of one's own; a row written over by the library's DeleteFunc. No condition. -/
import Derived.Test.YtknlpjoidjgciaaDoorWHxS
import Derived.Test.YtknlpjoidjgciaaDoorWArr
import Derived.Shelf.SlicesE.DeleteFunc
namespace Go.Proofs.YtknlpjoidjgciaaDoorW.PrintSps
open Go Go.RowKit Go.Sort Go.Proofs.YtknlpjoidjgciaaDoorW.PrintWords Go.Proofs.YtknlpjoidjgciaaDoorW.PrintHand Go.Proofs.YtknlpjoidjgciaaDoorW.PrintHx
set_option linter.unusedVariables false
theorem reps_strs {w : World} {base : Nat} {ok : Nat → Prop} (L : List ByteArray) : Reps (Kd.string.M w base ok) 1 L (L.map Value.string) := by
  refine ⟨by simp, fun j x hj => ?_⟩
  have hl := (List.getElem?_eq_some_iff.1 hj).1
  have e : ((L.map Value.string).drop (j * 1)).take 1 = [Value.string x] := by
    rw [Nat.mul_one, List.drop_eq_getElem_cons (by simpa using hl), List.take_succ_cons, List.take_zero, List.getElem_map]
    have := (List.getElem?_eq_some_iff.1 hj).2
    rw [this]
  rw [e]
  rfl
/-- A block whose first cells hold a list of strings is a row of one's own. -/
theorem own_strs {w : World} {g e B : Nat} {L M : List ByteArray} (hg : w.heap[g]? = some (.cells ((L ++ M).map Value.string).toArray e (0, 0))) (hB : B ≤ g) (hl : (L ++ M).length ≤ 1048576) : Kd.string.R e w B (fun _ => True) (.slice (some ⟨g, 0, none⟩) L.length (L ++ M).length) L :=
  ⟨fun _ _ => trivial, L.map Value.string, ⟨by simp [Kd.string, Kd.scalar], .inr ⟨g, (L ++ M).length, ((L ++ M).map Value.string).toArray, rfl, hB, hg, by rw [List.length_append]; omega, by simp only [maxLen]; omega, by simp [Kd.string, Kd.scalar], by simp [Kd.string, Kd.scalar]⟩⟩, reps_strs L⟩
theorem holds_new (w : World) (L : List ByteArray) (e : TypeId) : Holds Value.string (w.alloc (.cells (L.map Value.string).toArray e)) w.heap.size 0 L.toArray := by
  intro j hj
  have hj' : j < L.length := by simpa using hj
  have hb : (w.alloc (.cells (L.map Value.string).toArray e)).heap[w.heap.size]? = some (.cells (L.map Value.string).toArray e (0, 0)) := blk_new w _
  refine ⟨?_, row_frozen hb _⟩
  rw [blk_cell hb (0 + j), Nat.zero_add]
  simp [hj']
theorem put_heap {w : World} {g e : Nat} {cs : Array Value} {d : Array ByteArray} (q : Nat) (hg : w.heap[g]? = some (.cells cs e (0, 0))) (hs : cs.size = d.size) : (putRow Value.string (Sort.ahead w q) g 0 d).heap[g]? = some (.cells (d.toList.map Value.string).toArray e (0, 0)) := by
  have hc : putCells Value.string 0 d cs = (d.toList.map Value.string).toArray := by
    apply Array.ext
    · simp [putCells, hs]
    · intro i h1 h2
      have hi : i < d.size := by simpa using h2
      simp [putCells, hi]
  show ((Sort.ahead w q).heap.modify g _)[g]? = _
  rw [Array.getElem?_modify, if_pos rfl]
  show (w.heap[g]?).map _ = _
  rw [hg]
  simp [onCells, hc]
theorem put_below {w0 w : World} {B g : Nat} {d : Array ByteArray} (q : Nat) (hb : Below B w0 w) (hB : B ≤ g) : Below B w0 (putRow Value.string (Sort.ahead w q) g 0 d) := by
  refine ⟨hb.os, hb.tape, hb.output, ?_, fun k hk => ?_⟩
  · have := hb.size
    simpa [putRow, mapBlock, Sort.ahead] using this
  · show ((Sort.ahead w q).heap.modify g _)[k]? = _
    rw [Array.getElem?_modify, if_neg (by omega)]
    exact hb.block k hk
end Go.Proofs.YtknlpjoidjgciaaDoorW.PrintSps
