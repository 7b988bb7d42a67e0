/- A region that draws its order, taken apart by hand: pure operations first (the library's wpAny_take), then each order, then a path. No condition. -/
import Derived.Test.YtjhaofdnlnbajaaWGrowT
namespace Go.Proofs.YtjhaofdnlnbajaaW.PrintOrd
open Go Go.RowKit Go.Proofs.YtjhaofdnlnbajaaW.PrintWords Go.Proofs.YtjhaofdnlnbajaaW.PrintHand Go.Proofs.YtjhaofdnlnbajaaW.PrintHx
set_option linter.unusedVariables false
section
variable {P : Program} {ops : Array Oper} {Q : Exit → Act → World → Prop} {a : Act} {w : World}
/-- Into the region: a block and what lies below. -/
theorem region_in {id : Nat} (hm : P.follows .mixedOrders = true) {s0 B : Nat} {ob : Obj} {w0 : World} (hg : w.heap[s0]? = some ob) (hB : Below B w0 w)
    (h : ∀ wd, Aside0 (wd.heap[s0]? = some ob) → Aside0 (Below B w0 wd) → wpAny P .any ops Q ops.size (Array.replicate ops.size false) a wd) : (Code.region id ops true).wp P Q a w :=
  wp_region_any hm (h _ ⟨hg⟩ ⟨hB.drew⟩)
theorem op_run {i : Nat} {o : Oper} (hi : ops[i]? = some o) (hgd : o.guard = none) {K : Act → World → Prop} (v : Value) {w' : World} (hrun : (execOp a.eval o).run P w = .ok (.value v) w') (h : K (a.put o.dst v) w') : wpOp P ops Q i K a w := by
  unfold wpOp
  simp only [hi]
  have hw : Region.wanted o (yielded ops a.tmps) = true := by simp [Region.wanted, hgd]
  rw [if_pos hw]
  refine .inl ?_
  unfold Oper.wp
  rw [hrun, Oper.upon_value]
  exact h
theorem op_call {i : Nat} {o : Oper} (hi : ops[i]? = some o) (hgd : o.guard = none) {K : Act → World → Prop} {f : FuncId} {fn : Func} {ags : Array Operand} {ts : Array TypeId} (hf : P.funcs[f]? = some fn) (hname : (fn.name == "runtime.NumGoroutine") = false) (hb : fn.body.isSome = true)
    (hop : o.op = .call { callee := .value (.func f), args := ags, argTypes := ts }) (args : Array Value) (hargs : ags.map a.eval = args)
    (h : Calls P f args w fun e w' => ∃ v, e = .returned v ∧ K (a.put o.dst v) w') : wpOp P ops Q i K a w := by
  unfold wpOp
  simp only [hi]
  have hw : Region.wanted o (yielded ops a.tmps) = true := by simp [Region.wanted, hgd]
  rw [if_pos hw]
  refine .inl ?_
  have he := PrintLast.enters_ hf hname hb args w
  have hrun : (execOp a.eval o).run P w = .ok (.enter f args) w := by
    unfold execOp
    simp [hop, resolve, Act.eval, Deferred.ofValue, invoke, hargs, he]
  unfold Oper.wp
  rw [hrun, Oper.upon_enter]
  refine h.mono fun e w'' hh => ?_
  obtain ⟨v, rfl, hk⟩ := hh
  exact hk
def pathB (md : Region.Mode) (ops : Array Oper) : List Nat → Array Bool → Bool
  | [], b => (Region.ready md ops b).isEmpty
  | t :: r, b => decide (Region.ready md ops b = [t]) && pathB md ops r (b.setIfInBounds t true)
theorem wpAny_of_path {md : Region.Mode} : ∀ (T : List Nat) (l : List Oper) (b : Array Bool) (a : Act) (w : World), T.map (fun t => ops[t]?) = l.map some → pathB md ops T b = true → wpList P ops Q l a w → wpAny P md ops Q T.length b a w
  | [], l, b, a, w, hl, hB, h => by
    obtain rfl : l = [] := by simpa using hl.symm
    exact ⟨by simpa [pathB] using hB, h⟩
  | t :: r, l, b, a, w, hl, hB, h => by
    cases l with
    | nil => simp at hl
    | cons o l =>
      simp only [List.map_cons, List.cons.injEq] at hl
      simp only [pathB, Bool.and_eq_true, decide_eq_true_eq] at hB
      refine ⟨fun h1 => (by rw [hB.1] at h1; cases h1), fun i hi => ?_⟩
      rw [hB.1] at hi
      have hik : i = t := by simpa using hi
      subst hik
      have hw : wpOp P ops Q i (wpList P ops Q l) a w := by unfold wpOp; simp only [hl.1]; exact h
      exact wpOp_mono (fun a' w' h' => wpAny_of_path r l _ a' w' hl.2 hB.2 h') hw
theorem put_comm (a : Act) {d e : Tmp} (u v : Value) (h : d ≠ e) : (a.put (some d) u).put (some e) v = (a.put (some e) v).put (some d) u := by
  simp only [Act.put]
  rw [Array.setIfInBounds_comm _ _ h]
/-- A load and a call that takes it, beside another load: three orders that meet again. -/
theorem two_loads {fuel : Nat} {listed : Array Bool} (i1 c1 i2 : Nat) {o1 oc o2 : Oper} (h1 : ops[i1]? = some o1) (hc : ops[c1]? = some oc) (h2 : ops[i2]? = some o2) (g1 : o1.guard = none) (gc : oc.guard = none) (g2 : o2.guard = none)
    (r0 : Region.ready .any ops listed = [i1, i2]) (r1 : Region.ready .any ops (listed.setIfInBounds i1 true) = [c1, i2]) (r1c : Region.ready .any ops ((listed.setIfInBounds i1 true).setIfInBounds c1 true) = [i2])
    (r12 : Region.ready .any ops ((listed.setIfInBounds i1 true).setIfInBounds i2 true) = [c1]) (r2 : Region.ready .any ops (listed.setIfInBounds i2 true) = [i1]) (r21 : Region.ready .any ops ((listed.setIfInBounds i2 true).setIfInBounds i1 true) = [c1])
    (n1 : i1 ≠ i2) (n2 : c1 ≠ i2) {d1 dc d2 : Tmp} (e1 : o1.dst = some d1) (ec : oc.dst = some dc) (e2 : o2.dst = some d2) (m1 : d1 ≠ d2) (m2 : dc ≠ d2) (v1 v2 : Value)
    (l1 : (execOp a.eval o1).run P w = .ok (.value v1) w) (l1' : (execOp (a.put (some d2) v2).eval o1).run P w = .ok (.value v1) w)
    (l2 : (execOp a.eval o2).run P w = .ok (.value v2) w) (l2' : (execOp (a.put (some d1) v1).eval o2).run P w = .ok (.value v2) w) (l2c : ∀ v w2, Below w.heap.size w w2 → (execOp ((a.put (some d1) v1).put (some dc) v).eval o2).run P w2 = .ok (.value v2) w2)
    {f : FuncId} {fn : Func} {ags : Array Operand} {ts : Array TypeId} (hf : P.funcs[f]? = some fn) (hname : (fn.name == "runtime.NumGoroutine") = false) (hb : fn.body.isSome = true) (hop : oc.op = .call { callee := .value (.func f), args := ags, argTypes := ts }) (args : Array Value)
    (ha1 : ags.map (a.put (some d1) v1).eval = args) (ha2 : ags.map ((a.put (some d1) v1).put (some d2) v2).eval = args) (Post : Value → World → Prop)
    (hcall : Calls P f args w fun e w' => ∃ v, e = .returned v ∧ Post v w' ∧ Below w.heap.size w w')
    (hk : ∀ v w2, Below w.heap.size w w2 → Post v w2 → wpAny P .any ops Q fuel (((listed.setIfInBounds i1 true).setIfInBounds c1 true).setIfInBounds i2 true) (((a.put (some d1) v1).put (some dc) v).put (some d2) v2) w2) :
    wpAny P .any ops Q (fuel + 3) listed a w := by
  have last : wpOp P ops Q c1 (wpAny P .any ops Q fuel (((listed.setIfInBounds i1 true).setIfInBounds i2 true).setIfInBounds c1 true)) ((a.put (some d1) v1).put (some d2) v2) w := by
    refine op_call hc gc hf hname hb hop args ha2 (hcall.mono fun e w' hh => ?_)
    obtain ⟨v, rfl, hp, hb'⟩ := hh
    refine ⟨v, rfl, ?_⟩
    have := hk v w' hb' hp
    rw [ec, put_comm _ _ _ (Ne.symm m2), Array.setIfInBounds_comm (i := i2) (j := c1) _ _ (Ne.symm n2)]
    exact this
  refine wpAny_all r0 (by simp) (fun i hi => ?_)
  simp only [List.mem_cons, List.not_mem_nil, or_false] at hi
  rcases hi with rfl | rfl
  · refine op_run h1 g1 v1 l1 ?_
    rw [e1]
    refine wpAny_all r1 (by simp) (fun i hi => ?_)
    simp only [List.mem_cons, List.not_mem_nil, or_false] at hi
    rcases hi with rfl | rfl
    · refine op_call hc gc hf hname hb hop args ha1 (hcall.mono fun e w' hh => ?_)
      obtain ⟨v, rfl, hp, hb'⟩ := hh
      refine ⟨v, rfl, ?_⟩
      rw [ec]
      refine wpAny_all r1c (by simp) (fun i hi => ?_)
      simp only [List.mem_cons, List.not_mem_nil, or_false] at hi
      subst hi
      refine op_run h2 g2 v2 (l2c v w' hb') ?_
      rw [e2]
      exact hk v w' hb' hp
    · refine op_run h2 g2 v2 l2' ?_
      rw [e2]
      refine wpAny_all r12 (by simp) (fun i hi => ?_)
      simp only [List.mem_cons, List.not_mem_nil, or_false] at hi
      subst hi
      exact last
  · refine op_run h2 g2 v2 l2 ?_
    rw [e2]
    refine wpAny_all r2 (by simp) (fun i hi => ?_)
    simp only [List.mem_cons, List.not_mem_nil, or_false] at hi
    subst hi
    refine op_run h1 g1 v1 l1' ?_
    rw [e1]
    refine wpAny_all r21 (by simp) (fun i hi => ?_)
    simp only [List.mem_cons, List.not_mem_nil, or_false] at hi
    subst hi
    rw [← put_comm _ _ _ m1, Array.setIfInBounds_comm (i := _) (j := _) _ _ (Ne.symm n1)]
    exact last
end
end Go.Proofs.YtjhaofdnlnbajaaW.PrintOrd
