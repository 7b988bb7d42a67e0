/- A laid variable of bytes, read as a row. No condition. -/
import Derived.Test.YtknlpjoidjgciaaDoorWRaw
import Derived.Lib.LaidTab
namespace Go.Proofs.YtknlpjoidjgciaaDoorW.PrintDoor
open Go Go.RowKit Go.Proofs.YtknlpjoidjgciaaDoorW.PrintWords Go.Proofs.YtknlpjoidjgciaaDoorW.PrintHand Go.Proofs.YtknlpjoidjgciaaDoorW.PrintHx
set_option linter.unusedVariables false
theorem tab_reads {P : Program} {W : World} {name : String} {k : IntKind} {zs : List Int} {g : Nat} (h : Lib.TabIs P W name k zs) (hg : P.globalNamed name = some g) (hm : zs.length ≤ 9223372036854775807) : Kd.C (Kd.int k) W (some ⟨g, 0, none⟩) zs.length zs := by
  refine ⟨rfl, hm, fun _ => ⟨_, rfl, fun j p hj => ⟨[.int k p], rfl, rfl, fun i u hi => ?_⟩⟩⟩
  have hi0 : i = 0 := by
    have := (List.getElem?_eq_some_iff.1 hi).1
    simpa using this
  subst hi0
  have hu : u = .int k p := by simpa using hi.symm
  subst hu
  have hjl := (List.getElem?_eq_some_iff.1 hj).1
  have ha : (⟨g, 0, none⟩ : Addr).add (j * (Kd.int k).sz + 0) = ⟨g, j, none⟩ := by
    show (⟨g, 0, none⟩ : Addr).add (j * 1 + 0) = _
    rw [add_plain]
    simp
  rw [ha]
  have hc := h.cell hg j hjl
  rw [List.getD_eq_getElem?_getD, hj] at hc
  exact hc
end Go.Proofs.YtknlpjoidjgciaaDoorW.PrintDoor
