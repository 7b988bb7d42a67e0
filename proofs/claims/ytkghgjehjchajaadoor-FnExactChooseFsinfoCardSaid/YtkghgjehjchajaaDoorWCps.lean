/- A string's bytes copied onto a block of bytes. No condition. -/
import Derived.Test.YtkghgjehjchajaaDoorWTab2
import Derived.Test.YtkghgjehjchajaaDoorWGrow
import Derived.Lib.BufferWrite
import Derived.Test.YtkghgjehjchajaaDoorWHxS
import Derived.StillTail
import Derived.Deep.QuietTactic
namespace Go.Proofs.YtkghgjehjchajaaDoorW.PrintTab2
open Go Go.RowKit Go.Proofs.YtkghgjehjchajaaDoorW.PrintWords Go.Proofs.YtkghgjehjchajaaDoorW.PrintHand Go.Proofs.YtkghgjehjchajaaDoorW.PrintHx Go.Proofs.YtkghgjehjchajaaDoorW.PrintGrow
set_option linter.unusedVariables false
section
variable {P : Program} {ops : Array Oper} {rest : List Oper} {o : Oper} {a : Act} {w : World} {Q : Exit → Act → World → Prop}
theorem cp_str (hgd : o.guard = none) (d x : Operand) (dT sT : TypeId) (ho : o.op = .call { callee := .builtin .copy, args := #[d, x], argTypes := #[dT, sT] }) (elem : TypeId) (hu : P.underlying dT = some (.slice elem)) (hsz : (P.info? elem).map (·.size) = some 1)
    (g off dLen dCap : Nat) (s : ByteArray) (L : List Int) {t : TypeId} (hd : a.eval d = .slice (some ⟨g, off, none⟩) dLen dCap) (hs : a.eval x = .string s)
    (hg : w.heap[g]? = some (.cells (nums .u8 L).toArray t (0, 0))) (hfit : s.size ≤ dLen) (hfit2 : off + s.size ≤ L.length)
    (h : ∀ w', PrintHand.Touch g w w' → w'.heap[g]? = some (.cells (nums .u8 (L.take off ++ bytesOf s ++ L.drop (off + s.size))).toArray t (0, 0)) → wpList P ops Q rest (a.put o.dst (.int .i64 ((s.size : Nat) : Int))) w') : wpList P ops Q (o :: rest) a w := by
  refine wpList_plain hgd fun K hK => ?_
  have hr := Go.Lib.run_copy_row_string (P := P) w dT sT o.type elem g off dLen dCap s (nums .u8 L).toArray t hu hsz hg hfit (by simpa [nums] using hfit2)
  have e : ((nums .u8 L).toArray.toList.take off ++ Go.Lib.byteCells s.data.toList ++ (nums .u8 L).toArray.toList.drop (off + s.size)).toArray = (nums .u8 (L.take off ++ bytesOf s ++ L.drop (off + s.size))).toArray := by
    simp [nums, List.map_take, List.map_drop, Go.Lib.byteCells, bytesOf]
  obtain ⟨row, hrow⟩ : ∃ row, row = (nums .u8 (L.take off ++ bytesOf s ++ L.drop (off + s.size))).toArray := ⟨_, rfl⟩
  rw [e, ← hrow] at hr
  simp only [← hrow] at h
  clear hrow e
  unfold Oper.wp
  simp [execOp, ho, resolve, invoke, builtin, hd, hs, hr, Result.andThen]
  exact hK _ _ (h _ ⟨rfl, rfl, rfl, by simp [World.setRow], fun k hk => PrintHand.setRow_other hk⟩ (setRow_same hg))
/-- A single cell read, in a region that draws. -/
theorem quiet_ld1 {Qq : Act → Prop} (hgd : o.guard = none) (ty : TypeId) (x : Operand) (ho : o.op = .load ty x) (g off : Nat) (hx : a.eval x = .pointer (some ⟨g, off, none⟩)) {t : TypeId} {cs : Array Value} {d : TypeDesc} (v : Value)
    (hu : P.underlying ty = some d) (hd : (match d with | .struct _ | .array _ _ => true | _ => false) = false) (hg : w.heap[g]? = some (.cells cs t (0, 0))) (hv : cs[off]? = some v)
    (h : wpQuiet P ops (fun w' => ∃ m, w' = w.drewN m) Qq rest (a.put o.dst v)) : wpQuiet P ops (fun w' => ∃ m, w' = w.drewN m) Qq (o :: rest) a := by
  refine wpQuiet_step (fun K hK => ?_)
  have hw : Region.wanted o (yielded ops a.tmps) = true := by simp [Region.wanted, hgd]
  rw [if_pos hw]
  refine ⟨v, ?_, hK _ h⟩
  rintro w' ⟨m, rfl⟩
  have hagg : (isAgg ty).run P (w.drewN m) = .ok false (w.drewN m) := by
    unfold isAgg
    rw [Sem.run_bind, run_underlying hu (w.drewN m)]
    cases d <;> simp_all
  have hc : (w.drewN m).cell? ⟨g, off, none⟩ = some v := (blk_cell (show (w.drewN m).heap[g]? = _ from hg) off).trans hv
  have hl : (loadVar ty ⟨g, off, none⟩).run P (w.drewN m) = .ok v (w.drewN m) := by
    unfold loadVar
    rw [Sem.run_bind, hagg]
    simp [hc]
  unfold Oper.quietAt execOp
  simp only [ho, hx, Instr.loadAt, Instr.sureAddr, Sem.run_bind, Sem.run_pure, Result.andThen_ok, hl]
  exact ⟨rfl, rfl⟩
end
end Go.Proofs.YtkghgjehjchajaaDoorW.PrintTab2
