/- FnTable: the draws that spoil, and the drawn table. -/
import Derived.Test.YtkghgjehjchajaaTbd
import Derived.Test.YtkghgjehjchajaaPFnTablex10
import Derived.Test.YtkghgjehjchajaaPFnTablex9
import Derived.Test.YtkghgjehjchajaaPFnTablex8
import Derived.OrdersHeld
import Derived.Test.YtkghgjehjchajaaWTab3
namespace Go.Proofs.Ytkghgjehjchajaa.PFnTable
open Go.RowKit Go.Proofs.YtkghgjehjchajaaW.PrintWords Go.Proofs.YtkghgjehjchajaaW.PrintLast Go.Proofs.YtkghgjehjchajaaW.PrintMore
open Go.Proofs.YtkghgjehjchajaaW Go.Proofs.YtkghgjehjchajaaW.PrintHand Go.Proofs.YtkghgjehjchajaaW.PrintHx
attribute [local go_sem] max2_int min2_int max_two min_two max_three min_three max_four min_four
set_option linter.unusedVariables false
set_option linter.unusedSimpArgs false

/-- A row of one's own, of n numbers. -/
def Ri (w0 w : World) (s0 : Nat) (v : Value) (n : Nat) : Prop := ∃ xs : List Int, xs.length = n ∧ Kd.R (Kd.int .i64) 3 w w0.heap.size (fun k => s0 ≤ k) v xs
section
variable {b : List Int} {g s0 : Nat} {w0 w w1 w2 : World} {v : Value} {n : Nat}
theorem Ri.draw (h : Ri w0 w1 s0 v n) (k : Dr b g w0 w1 w2) (hg : g < s0) : Ri w0 w2 s0 v n := by
  obtain ⟨xs, hm, h⟩ := h
  exact ⟨xs, hm, Kd.R_kept h (kept_keep k.kp) (fun k_ hk_ (he_ : k_ = g) => by omega)⟩
theorem Ri.at_ (h : Ri w0 w s0 v n) (q : Nat) (hq : q < n) : ∃ (ad : Addr) (c : Nat) (x : Int), v = .slice (some ad) n c ∧ w.cell? (ad.add q) = some (.int .i64 x) := by
  obtain ⟨xs, rfl, h⟩ := h
  obtain ⟨A, c, rfl⟩ := Kd.R_slice h
  obtain ⟨ad, rfl, hx⟩ := Kd.at_int (Kd.R_reads' h).2.2 (q : Int) (by omega) (by omega)
  exact ⟨ad, c, _, rfl, hx⟩
variable {ops : Array Oper} {rest : List Oper} {o : Oper} {a : Act} {Q : Exit → Act → World → Prop} {P : Program}
theorem ex_liti (hgd : o.guard = none) {N : Tmp} (hd : o.dst = some N) {xs : List Int} (hl : xs.length ≤ 100) (D : Aside0 (Dr b g w0 w w1)) (S0 : Aside0 (w.heap.size = s0)) (hg0 : g < s0)
    (hrun : (execOp a.eval o).run Try.prog w1 = .ok (.value (.slice (some ⟨w1.heap.size, 0, none⟩) xs.length xs.length)) (w1.alloc (.cells (nums .i64 xs).toArray 3)))
    (h : ∀ v1 w2, Ri w0 w2 s0 v1 xs.length → Below w1.heap.size w1 w2 → Dr b g w0 w w2 → wpList Try.prog ops Q rest (a.put o.dst v1) w2) : wpList Try.prog ops Q (o :: rest) a w1 := by
  have hs : s0 ≤ w1.heap.size := by rw [← S0.out]; exact D.out.kp.1
  refine Kd.R_lit (Kd.int .i64) (w0 := w1) w1.heap.size 3 hgd hd (xs := xs) (inner := nums .i64 xs) (ok := fun k => s0 ≤ k) (okp := fun _ => False) hrun (reps_ints _) (fun _ hk => hk.elim) hs (Below.refl _ _) (Nat.le_refl _) (by omega) ?_
  intro v1 w2 ho hb hg _
  exact h v1 w2 ⟨xs, rfl, Kd.R_lower ho D.out.bl.size⟩ hb (D.out.below hb)
theorem st_liti (hi : ops[n]? = some o) (hgd : o.guard = none) {N : Tmp} (hd : o.dst = some N) {xs : List Int} (hl : xs.length ≤ 100) (D : Aside0 (Dr b g w0 w w1)) (S0 : Aside0 (w.heap.size = s0)) (hg0 : g < s0) {K : Act → World → Prop}
    (hrun : (execOp a.eval o).run Try.prog w1 = .ok (.value (.slice (some ⟨w1.heap.size, 0, none⟩) xs.length xs.length)) (w1.alloc (.cells (nums .i64 xs).toArray 3)))
    (h : ∀ v1 w2, Ri w0 w2 s0 v1 xs.length → Below w1.heap.size w1 w2 → Dr b g w0 w w2 → K (a.put o.dst v1) w2) : wpOp Try.prog ops Q n K a w1 := by
  have hs : s0 ≤ w1.heap.size := by rw [← S0.out]; exact D.out.kp.1
  have hw : Region.wanted o (yielded ops a.tmps) = true := by simp [Region.wanted, hgd]
  have hst := Kd.R_lit_step (P := Try.prog) (Q := Q) (Kc := K) (ops := ops) (a := a) (o := o) (W := w1) (Kd.int .i64) (w0 := w1) w1.heap.size 3 hw hd (xs := xs) (inner := nums .i64 xs) (ok := fun k => s0 ≤ k) (okp := fun _ => False) hrun (reps_ints _) (fun _ hk => hk.elim) hs (Below.refl _ _) (Nat.le_refl _) (by omega) (fun v1 w2 ho hb hg _ => h v1 w2 ⟨xs, rfl, Kd.R_lower ho D.out.bl.size⟩ hb (D.out.below hb))
  unfold wpOp
  simp only [hi]
  rw [if_pos hw] at hst ⊢
  exact .inl hst
theorem st_storef {i s off t : Nat} (hi : ops[i]? = some o) (hgd : o.guard = none) (hN : o.dst = none) (ty : TypeId) (p x : Operand) (ho : o.op = .store ty p x) (hp : a.eval p = .pointer (some ⟨s, off, none⟩)) (v : Int) (hx : a.eval x = .int .i64 v)
    (ht : (P.info? ty).map (·.size) = some 1) {L : List Int} (hg : w.heap[s]? = some (.cells (nums .i64 L).toArray t (0, 0))) (hn : off < L.length) {K : Act → World → Prop}
    (h : ∀ w', PrintHand.Touch s w w' → w'.heap[s]? = some (.cells (nums .i64 (L.set off v)).toArray t (0, 0)) → K a w') : wpOp P ops Q i K a w := by
  have hw : Region.wanted o (yielded ops a.tmps) = true := by simp [Region.wanted, hgd]
  unfold wpOp
  simp only [hi]
  rw [if_pos hw]
  refine .inl ?_
  have hrun := run_store_run (P := P) (w := w) (g := s) (o := off) ty (.int .i64 v) [.int .i64 v] hg rfl ht (by simp [nums]; omega) (fun q hq => by rw [List.mem_singleton.1 hq]; rfl)
  unfold Oper.wp execOp
  simp only [ho, hp, hx, Sem.run_bind, Sem.run_pure, Result.andThen_ok, hrun]
  obtain ⟨cur', h3, h4, h5⟩ := setCells_row [.int .i64 v] off w _ hg (by simp [nums]; omega)
  have hc : cur' = (nums .i64 (L.set off v)).toArray := by
    apply Array.toList_inj.1
    rw [h5, List.set_eq_take_append_cons_drop, if_pos hn]
    simp [nums, List.map_take, List.map_drop]
  rw [hc] at h3
  have hput : a.put o.dst undef = a := by simp [Act.put, hN]
  show K (a.put o.dst undef) (w.setCells s off [.int .i64 v])
  rw [hput]
  exact h _ (touch_setCells s off [.int .i64 v] w) h3
theorem op_step {i : Nat} (hi : ops[i]? = some o) {K : Act → World → Prop} (h : if Region.wanted o (yielded ops a.tmps) = true then Oper.wp P o a w K Q else K (a.put o.dst undef) w) : wpOp P ops Q i K a w := by
  unfold wpOp
  simp only [hi]
  by_cases hw : Region.wanted o (yielded ops a.tmps) = true
  · rw [if_pos hw] at h ⊢
    exact .inl h
  · rw [if_neg hw] at h ⊢
    exact h
theorem onlyH {md : Region.Mode} {S : World → Prop} (i : Nat) {fuel : Nat} {listed : Array Bool} (hr : Region.ready md ops listed = [i])
    (h : wpOp P ops Q i (fun a' w' => S w' ∧ wpAnyH P md ops Q S fuel (listed.setIfInBounds i true) a' w') a w) : wpAnyH P md ops Q S (fuel + 1) listed a w :=
  wpAnyH_all hr (by simp) (fun j hj => by obtain rfl := List.mem_singleton.1 hj; exact h)
theorem ch_ldf {t : TypeId} {x : Operand} {s off : Nat} {L : List Int} {tt : TypeId} {d : TypeDesc} (hw : w.heap[s]? = some (.cells (nums .i64 L).toArray tt (0, 0))) (hl : off < L.length) (ho : o.op = .load t x := by rfl) (hx : a.eval x = .pointer (some ⟨s, off, none⟩) := by rfl) (hu : P.underlying t = some d := by rfl) (hd : (match d with | .struct _ | .array _ _ => true | _ => false) = false := by rfl) : (execOp a.eval o).run P w = .ok (.value (.int .i64 (L.getD off 0))) w := by
  have hagg : (isAgg t).run P w = .ok false w := by
    unfold isAgg
    rw [Sem.run_bind, run_underlying hu w]
    cases d <;> simp_all
  have hc : w.cell? ⟨s, off, none⟩ = some (.int .i64 (L.getD off 0)) := (blk_cell hw off).trans (by simp [nums, List.getElem?_eq_getElem hl])
  have h : (loadVar t ⟨s, off, none⟩).run P w = .ok (.int .i64 (L.getD off 0)) w := by
    unfold loadVar
    rw [Sem.run_bind, hagg]
    simp [hc]
  unfold execOp
  simp only [ho, hx, Instr.loadAt, Instr.sureAddr, Sem.run_bind, Sem.run_pure, Result.andThen_ok, h]
end
section
variable {b : List Int} {g : Nat} {w0 w' w : World} (hb : b.length ≤ 1048576)
include hb
theorem One_one (h : Dr b g w0 w' w) : Calls Try.prog 67 #[.pointer (some ⟨g, 0, none⟩), .int .i64 1] w fun e w2 => e = .returned (.bool true) ∧ Dr b g w0 w w2 := by
  obtain ⟨i, x, hI, hi⟩ := h.st
  obtain ⟨v, i', x', e, hv, hi'⟩ := Drw.src_N1 b hb i x 1 hi (by omega) (by omega)
  have hz : v = 0 := by omega
  subst hz
  refine (spec_l01Src_One.calls g b i x 1 true i' x' w0 w hI h.bl (by rw [spec_l01Src_One.f, e]; rfl)).mono ?_
  rintro e_ w2 ⟨rfl, hI2, hB2, hK2⟩
  exact ⟨rfl, ⟨i', x', hI2, hi'⟩, hB2, hK2⟩
end
/-- The source goes on, block sR is a result, block sE holds LE. -/
structure Sp (b : List Int) (g : Nat) (w0 w : World) (sE sR : Nat) (LE : List Int) (wc : World) : Prop where
  d : Dr b g w0 w wc
  r : Blk 15 28 sR wc
  e : wc.heap[sE]? = some (.cells (nums .i64 LE).toArray 28 (0, 0))
section
variable {b : List Int} {g sE sR s0 : Nat} {w0 w w1 w2 : World} {LE : List Int} {ops : Array Oper} {o : Oper} {a : Act} {Q : Exit → Act → World → Prop} {K : Act → World → Prop} {i : Nat}
theorem Sp.draw (h : Sp b g w0 w sE sR LE w1) (k : Dr b g w0 w1 w2) (hE : g < sE) (hR : g < sR) : Sp b g w0 w sE sR LE w2 := ⟨h.d.draw k, h.r.draw k hR, blk_kept h.e (kept_keep k.kp) (fun (e_ : sE = g) => by omega)⟩
theorem Sp.below (h : Sp b g w0 w sE sR LE w1) (k : Below w1.heap.size w1 w2) : Sp b g w0 w sE sR LE w2 := ⟨h.d.below k, h.r.below k, blk_below h.e k⟩
theorem op_run (hi : ops[i]? = some o) (hgd : o.guard = none) (v : Value) {P : Program} (hrun : (execOp a.eval o).run P w1 = .ok (.value v) w1) (h : K (a.put o.dst v) w1) : wpOp P ops Q i K a w1 := by
  have hw : Region.wanted o (yielded ops a.tmps) = true := by simp [Region.wanted, hgd]
  unfold wpOp
  simp only [hi]
  rw [if_pos hw]
  refine .inl ?_
  unfold Oper.wp
  rw [hrun, Oper.upon_value]
  exact h
theorem op_call (hi : ops[i]? = some o) (hgd : o.guard = none) {f : FuncId} {fn : Func} {ags : Array Operand} {ts : Array TypeId} (hf : Try.prog.funcs[f]? = some fn) (hname : (fn.name == "runtime.NumGoroutine") = false) (hb : fn.body.isSome = true)
    (hop : o.op = .call { callee := .value (.func f), args := ags, argTypes := ts }) (args : Array Value) (hargs : ags.map a.eval = args) (h : Calls Try.prog f args w1 fun e w' => ∃ v, e = .returned v ∧ K (a.put o.dst v) w') : wpOp Try.prog ops Q i K a w1 := by
  have hw : Region.wanted o (yielded ops a.tmps) = true := by simp [Region.wanted, hgd]
  have he := PrintLast.enters_ hf hname hb args w1
  have hrun : (execOp a.eval o).run Try.prog w1 = .ok (.enter f args) w1 := by
    unfold execOp
    simp [hop, resolve, Act.eval, Deferred.ofValue, invoke, hargs, he]
  unfold wpOp
  simp only [hi]
  rw [if_pos hw]
  refine .inl ?_
  unfold Oper.wp
  rw [hrun, Oper.upon_enter]
  refine h.mono fun e w'' hh => ?_
  obtain ⟨v, rfl, hk⟩ := hh
  exact hk
theorem sp_wild (hi : ops[i]? = some o) (hgd : o.guard = none) (x : Operand) {ts : Array TypeId} (ho : o.op = .call { callee := .value (.func 80), args := #[x], argTypes := ts }) (hx : a.eval x = .pointer (some ⟨g, 0, none⟩)) (hb : b.length ≤ 1048576) (Z : Aside0 (Sp b g w0 w sE sR LE w1)) (hE : g < sE) (hR : g < sR)
    (h : ∀ (v : Int) w2, Dr b g w0 w1 w2 → Aside0 (Sp b g w0 w sE sR LE w2) → K (a.put o.dst (.int .i64 v)) w2) : wpOp Try.prog ops Q i K a w1 := by
  refine op_call hi hgd Try.func80 (by kernel_rfl) rfl ho #[.pointer (some ⟨g, 0, none⟩)] (by simp [hx]) ((Wild_any hb Z.out.d).mono ?_)
  rintro e_ w2 ⟨v, rfl, d_⟩
  exact ⟨_, rfl, h v w2 d_ ⟨Z.out.draw d_ hE hR⟩⟩
theorem sp_n {k : Int} (hi : ops[i]? = some o) (hgd : o.guard = none) (x y : Operand) {ts : Array TypeId} (ho : o.op = .call { callee := .value (.func 63), args := #[x, y], argTypes := ts }) (hx : a.eval x = .pointer (some ⟨g, 0, none⟩)) (hy : a.eval y = .int .i64 k) (hk1 : 1 ≤ k) (hk2 : k ≤ 4294967296) (hb : b.length ≤ 1048576) (Z : Aside0 (Sp b g w0 w sE sR LE w1)) (hE : g < sE) (hR : g < sR)
    (h : ∀ (v : Int) w2, (0 ≤ v ∧ v < k) → Dr b g w0 w1 w2 → Aside0 (Sp b g w0 w sE sR LE w2) → K (a.put o.dst (.int .i64 v)) w2) : wpOp Try.prog ops Q i K a w1 := by
  refine op_call hi hgd Try.func63 (by kernel_rfl) rfl ho #[.pointer (some ⟨g, 0, none⟩), .int .i64 k] (by simp [hx, hy]) ((N_any hb hk1 hk2 Z.out.d).mono ?_)
  rintro e_ w2 ⟨v, rfl, hv, d_⟩
  exact ⟨_, rfl, h v w2 hv d_ ⟨Z.out.draw d_ hE hR⟩⟩
theorem sp_ld {e0 : Int} (hi : ops[i]? = some o) (hgd : o.guard = none) (x : Operand) (ho : o.op = .load 3 x) (hx : a.eval x = .pointer (some ⟨sE, 0, none⟩)) (HE0 : Aside0 (e0 = LE.getD 0 0)) (NE : Aside0 (LE.length = 15)) (Z : Aside0 (Sp b g w0 w sE sR LE w1))
    (h : K (a.put o.dst (.int .i64 e0)) w1) : wpOp Try.prog ops Q i K a w1 := by
  refine op_run hi hgd (.int .i64 e0) ?_ h
  rw [HE0.out]
  exact ch_ldf Z.out.e (by rw [NE.out]; decide) ho hx Try.underlying3 rfl
theorem sp_lit (hi : ops[i]? = some o) (hgd : o.guard = none) {N : Tmp} (hd : o.dst = some N) {xs : List Int} (hl : xs.length ≤ 100) (Z : Aside0 (Sp b g w0 w sE sR LE w1)) (S0 : Aside0 (w.heap.size = s0)) (hg0 : g < s0)
    (hrun : (execOp a.eval o).run Try.prog w1 = .ok (.value (.slice (some ⟨w1.heap.size, 0, none⟩) xs.length xs.length)) (w1.alloc (.cells (nums .i64 xs).toArray 3)))
    (h : ∀ v1 w2, Aside0 (Ri w0 w2 s0 v1 xs.length) → Aside0 (Sp b g w0 w sE sR LE w2) → K (a.put o.dst v1) w2) : wpOp Try.prog ops Q i K a w1 :=
  st_liti hi hgd hd hl ⟨Z.out.d⟩ S0 hg0 hrun (fun v1 w2 h1 h2 _ => h v1 w2 ⟨h1⟩ ⟨Z.out.below h2⟩)
theorem tk {P : Program} {md : Region.Mode} {fuel : Nat} {listed : Array Bool} (i : Nat) (v : Value) (hi : ops[i]? = some o) (hs : Region.noSelect ops = true) (hf : Region.free md ops listed i = true) (hr : (Region.ready md ops listed).contains i = true)
    (hQ : ∀ c a w, Q (.panic c) (a.put o.dst v) w → Q (.panic c) a w) (hw : Region.wanted o (yielded ops a.tmps) = true) (hv : ∀ w, (execOp a.eval o).run P w = .ok (.value v) w) (h : wpAny P md ops Q fuel (listed.setIfInBounds i true) (a.put o.dst v) w1) : wpAny P md ops Q (fuel + 1) listed a w1 :=
  wpAny_take hi hs hf hr hQ (.inl ⟨hw, hv⟩) h
end
theorem sp3 (v : Int) : (v == 0) = true ∨ ((v == 0) = false ∧ (v == 1) = true) ∨ ((v == 0) = false ∧ (v == 1) = false ∧ (v == 2) = true) ∨ ((v == 0) = false ∧ (v == 1) = false ∧ (v == 2) = false) := by
  cases (v == 0) <;> cases (v == 1) <;> cases (v == 2) <;> simp
set_option maxHeartbeats 8000000 in
set_option maxRecDepth 100000 in
theorem SpoilRoot_any {b : List Int} {g : Nat} {w0 w' w : World} (hb : b.length ≤ 1048576) (L : List Int) (hL : L.length = 15) (h : Dr b g w0 w' w) : Calls Try.prog 81 #[.pointer (some ⟨g, 0, none⟩), .agg (nums .i64 L).toArray, .int .i64 1] w fun e w2 => ∃ L : List Int, e = .returned (.agg (nums .i64 L).toArray) ∧ L.length = 15 ∧ Dr b g w0 w w2 := by
  have D := Aside0.mk h.again
  obtain ⟨s0, S0⟩ : ∃ s0, Aside0 (w.heap.size = s0) := ⟨_, ⟨rfl⟩⟩
  have hg0 : g < s0 := by (have q_ := h.lt; rw [S0.out] at q_; exact q_)
  clear h
  have Z28 : ∀ w, (zeroValue 28).run Try.prog w = .ok (.agg (nums .i64 (List.replicate 15 0)).toArray) w := fun _ => by kernel_rfl
  have Z42 : ∀ w, (zeroValue 42).run Try.prog w = .ok (.agg (nums .i64 (List.replicate 24 0)).toArray) w := fun _ => by kernel_rfl
  go_enter Try.func81, Try.ntmps81
  go_wp2_with (first | ((with_reducible refine gate_dst (N := 4) rfl ?_); obtain ⟨sE, Sz_, hE⟩ := D.out.size_ S0; refine hx_box rfl 4 rfl 28 (.tmp 1) rfl Sz_ (.agg (nums .i64 L).toArray) (nums .i64 L).toArray rfl rfl ?_; intro wn sn Ln_ Sn_ bn_ gn_; clear Ln_ Sn_ Sz_; have X_ := Aside0.mk (D.out.below bn_); clear D; have D := X_; clear X_; have BE : Aside0 (Blk 15 28 sE wn) := ⟨Blk.of hL gn_⟩; clear bn_ gn_) | ((with_reducible refine gate_dst (N := 6) rfl ?_); obtain ⟨sR, Sz_, hR⟩ := D.out.size_ S0; have hER : sE < sR := (by have q_ := BE.out.lt; rw [Sz_.out] at q_; exact q_); refine hx_alloc rfl 6 rfl 28 rfl Sz_ (.agg (nums .i64 (List.replicate 15 0)).toArray) (nums .i64 (List.replicate 15 0)).toArray Z28 rfl ?_; intro wn sn Ln_ Sn_ bn_ gn_; clear Ln_ Sn_ Sz_; have X_ := Aside0.mk (BE.out.below bn_); clear BE; have BE := X_; clear X_; have X_ := Aside0.mk (D.out.below bn_); clear D; have D := X_; clear X_; have BR : Aside0 (Blk 15 28 sR wn) := ⟨Blk.of List.length_replicate gn_⟩; clear bn_ gn_) | ((with_reducible refine gate_dst (N := 10) rfl ?_); refine goesL_ (some 10) rfl rfl Try.func67 (by kernel_rfl) rfl #[.pointer (some ⟨g, 0, none⟩), .int .i64 1] rfl (by (try simp only [List.map_toArray, List.map_cons, List.map_nil]); first | done | rfl) ?_; refine (One_one hb D.out).mono ?_; rintro e_ wn ⟨rfl, d_⟩; refine ⟨_, rfl, ?_⟩; have X_ := Aside0.mk (BE.out.draw d_ (by omega)); clear BE; have BE := X_; clear X_; have X_ := Aside0.mk (BR.out.draw d_ (by omega)); clear BR; have BR := X_; clear X_; have X_ := Aside0.mk (D.out.draw d_); clear D; have D := X_; clear X_; clear d_) | ((with_reducible refine gate_dst (N := 14) rfl ?_); refine goesL_ (some 14) rfl rfl Try.func80 (by kernel_rfl) rfl #[.pointer (some ⟨g, 0, none⟩)] rfl (by (try simp only [List.map_toArray, List.map_cons, List.map_nil]); first | done | rfl) ?_; refine (Wild_any hb D.out).mono ?_; rintro e_ wn ⟨v14, rfl, d_⟩; refine ⟨_, rfl, ?_⟩; have X_ := Aside0.mk (BE.out.draw d_ (by omega)); clear BE; have BE := X_; clear X_; have X_ := Aside0.mk (BR.out.draw d_ (by omega)); clear BR; have BR := X_; clear X_; have X_ := Aside0.mk (D.out.draw d_); clear D; have D := X_; clear X_; clear d_) | ((with_reducible refine gate_dst (N := 15) rfl ?_); refine ex_liti rfl (N := 15) rfl (xs := [0, 1, 2, 70, 2047, 2048, v14]) (by simp) D S0 hg0 ?hr ?_; (case hr => first | (go_simp; done) | (go_simp; rfl)); intro vl wn o_ bn_ d_; have X_ := Aside0.mk (BE.out.below bn_); clear BE; have BE := X_; clear X_; have X_ := Aside0.mk (BR.out.below bn_); clear BR; have BR := X_; clear X_; clear D; have D := Aside0.mk d_; have I : Aside0 (Ri w0 wn s0 vl 7) := ⟨o_⟩; clear d_ o_ bn_) | ((with_reducible refine gate_dst (N := 17) rfl ?_); refine goesL_ (some 17) rfl rfl Try.func63 (by kernel_rfl) rfl #[.pointer (some ⟨g, 0, none⟩), .int .i64 7] rfl (by (try simp only [List.map_toArray, List.map_cons, List.map_nil]); first | done | rfl) ?_; refine (N_any hb (by omega) (by omega) D.out).mono ?_; rintro e_ wn ⟨v17, rfl, hv_, d_⟩; refine ⟨_, rfl, ?_⟩; have X_ := Aside0.mk (BE.out.draw d_ (by omega)); clear BE; have BE := X_; clear X_; have X_ := Aside0.mk (BR.out.draw d_ (by omega)); clear BR; have BR := X_; clear X_; have X_ := Aside0.mk (I.out.draw d_ hg0); clear I; have I := X_; clear X_; have X_ := Aside0.mk (D.out.draw d_); clear D; have D := X_; clear X_; clear d_; have V17 := Aside0.mk hv_; clear hv_; have hv_ := V17.out; clear V17; obtain ⟨q17, rfl⟩ := Int.eq_ofNat_of_zero_le hv_.1; obtain ⟨adl, cl, xl, rfl, hxl⟩ := I.out.at_ q17 (by omega); clear I; have i17_0 : (0 ≤ (q17 : Int)) = True := eq_true (by omega); have i17_1 : ((q17 : Int) < 7) = True := eq_true (by omega); have i17_2 : (q17 < 7) = True := eq_true (by omega); clear hv_) | ((with_reducible refine gate_dst (N := 21) rfl ?_); refine goesL_ (some 21) rfl rfl Try.func63 (by kernel_rfl) rfl #[.pointer (some ⟨g, 0, none⟩), .int .i64 5] rfl (by (try simp only [List.map_toArray, List.map_cons, List.map_nil]); first | done | rfl) ?_; refine (N_any hb (by omega) (by omega) D.out).mono ?_; rintro e_ wn ⟨v21, rfl, hv_, d_⟩; refine ⟨_, rfl, ?_⟩; have X_ := Aside0.mk (BE.out.draw d_ (by omega)); clear BE; have BE := X_; clear X_; have X_ := Aside0.mk (BR.out.draw d_ (by omega)); clear BR; have BR := X_; clear X_; have X_ := Aside0.mk (D.out.draw d_); clear D; have D := X_; clear X_; clear d_; have V21 := Aside0.mk hv_; clear hv_; clear V21; rcases sp3 v21 with k0 | ⟨k0, k1⟩ | ⟨k0, k1, k2⟩ | ⟨k0, k1, k2⟩) | ((with_reducible refine gate_store (t := 3) (p := 49) (v := .tmp 48) rfl ?_); refine ex_storef rfl rfl 3 (.tmp 49) (.tmp 48) rfl sE (13) rfl _ rfl (by kernel_rfl) BE.out (by decide) ?_; clear BE; intro wn tn_ gn_; have X_ := Aside0.mk (BR.out.touch tn_ (by omega)); clear BR; have BR := X_; clear X_; have X_ := Aside0.mk (D.out.touch S0 hg0 hE tn_); clear D; have D := X_; clear X_; have BE := Aside0.mk gn_; clear tn_ gn_) | ((with_reducible refine gate_store (t := 3) (p := 53) (v := .tmp 52) rfl ?_); refine ex_storef rfl rfl 3 (.tmp 53) (.tmp 52) rfl sE (14) rfl _ rfl (by kernel_rfl) BE.out (by decide) ?_; clear BE; intro wn tn_ gn_; have X_ := Aside0.mk (BR.out.touch tn_ (by omega)); clear BR; have BR := X_; clear X_; have X_ := Aside0.mk (D.out.touch S0 hg0 hE tn_); clear D; have D := X_; clear X_; have BE := Aside0.mk gn_; clear tn_ gn_) | ((with_reducible refine gate_dst (N := 23) rfl ?_); refine goesL_ (some 23) rfl rfl Try.func63 (by kernel_rfl) rfl #[.pointer (some ⟨g, 0, none⟩), .int .i64 12] rfl (by (try simp only [List.map_toArray, List.map_cons, List.map_nil]); first | done | rfl) ?_; refine (N_any hb (by omega) (by omega) D.out).mono ?_; rintro e_ wn ⟨v23, rfl, hv_, d_⟩; refine ⟨_, rfl, ?_⟩; have X_ := Aside0.mk (BE.out.draw d_ (by omega)); clear BE; have BE := X_; clear X_; have X_ := Aside0.mk (BR.out.draw d_ (by omega)); clear BR; have BR := X_; clear X_; have X_ := Aside0.mk (D.out.draw d_); clear D; have D := X_; clear X_; clear d_; have V23 := Aside0.mk hv_; clear hv_; have hv_ := V23.out; clear V23; obtain ⟨q23, rfl⟩ := Int.eq_ofNat_of_zero_le hv_.1; have Q23 : Aside0 (q23 < 12) := ⟨by omega⟩; have i23_0 : (0 ≤ (q23 : Int)) = True := eq_true (by omega); have i23_1 : ((q23 : Int) < 12) = True := eq_true (by omega); have i23_2 : (q23 < 12) = True := eq_true (by omega); clear hv_) | ((with_reducible refine gate_store (t := 3) (p := 26) (v := .tmp 24) rfl ?_); refine ex_storef rfl rfl 3 (.tmp 26) (.tmp 24) rfl sE (1 + q23) rfl _ rfl (by kernel_rfl) BE.out (by have := Q23.out; omega) ?_; clear BE; intro wn tn_ gn_; have X_ := Aside0.mk (BR.out.touch tn_ (by omega)); clear BR; have BR := X_; clear X_; have X_ := Aside0.mk (D.out.touch S0 hg0 hE tn_); clear D; have D := X_; clear X_; have BE := Aside0.mk gn_; clear tn_ gn_) | ((with_reducible refine gate_dst (N := 54) rfl ?_); refine ex_load rfl 28 (.tmp 4) rfl sE rfl Try.underlying28 rfl (by kernel_rfl) BE.out ?_; intro LL nLL_; have NLL := Aside0.mk nLL_; clear nLL_) | ((with_reducible refine gate_store (t := 28) (p := 6) (v := .tmp 54) rfl ?_); refine ex_store rfl rfl 28 (.tmp 6) (.tmp 54) rfl sR rfl _ rfl (by kernel_rfl) NLL.out BR.out ?_; clear BR; intro wn tn_ gn_; have X_ := Aside0.mk (BE.out.touch tn_ (by omega)); clear BE; have BE := X_; clear X_; have X_ := Aside0.mk (D.out.touch S0 hg0 hR tn_); clear D; have D := X_; clear X_; have BR := Aside0.mk gn_; clear tn_ gn_))
  all_goals (try (obtain ⟨LR, nR, gR⟩ := BR.out; exact bodyPost_ret (results_cell_row rfl _ _ sR 28 (nums .i64 LR).toArray (0, 0) _ rfl gR Try.underlying28 rfl (by rw [nums_size _ _ _ nR]; kernel_rfl)) rfl ⟨LR, rfl, nR, D.out⟩))
  obtain ⟨LE, nE, gE⟩ := BE.out
  have NE := Aside0.mk nE
  obtain ⟨e0, he0⟩ : ∃ y, y = LE.getD 0 0 := ⟨_, rfl⟩
  have HE0 := Aside0.mk he0
  have Z := Aside0.mk (Sp.mk D.out BR.out gE)
  have hgE : g < sE := by omega
  have hgR : g < sR := by omega
  clear nE gE he0 BE D BR
  refine wp_region_any (by kernel_rfl) ?_
  obtain ⟨w7, hd⟩ : ∃ wd, wd = wn.drew := ⟨_, rfl⟩
  rw [show ({ wn with drawn := wn.drawn + 1 } : World) = w7 from hd.symm]
  have b7 : Below wn.heap.size wn w7 := by rw [hd]; exact (Below.refl _ _).drew
  clear hd
  have X_ := Aside0.mk (Z.out.below b7)
  clear Z b7
  have Z := X_
  clear X_
  (refine tk 0 (.pointer (some ⟨g, 0, none⟩)) rfl (by kernel_rfl) (by kernel_rfl) (by decide +kernel) (fun _ _ _ h => h) rfl (fun w_ => by unfold execOp; go_simp; first | done | rfl | (rw [IntKind.wrap_i64, wrap64]; done) | (rw [IntKind.wrap_i64]; rfl)) ?_; simp only [List.getElem_toArray, List.getElem_cons_succ, List.getElem_cons_zero, Act.put, List.setIfInBounds_toArray, List.set_cons_succ, List.set_cons_zero])
  (refine tk 2 (.pointer (some ⟨g, 0, none⟩)) rfl (by kernel_rfl) (by kernel_rfl) (by decide +kernel) (fun _ _ _ h => h) rfl (fun w_ => by unfold execOp; go_simp; first | done | rfl | (rw [IntKind.wrap_i64, wrap64]; done) | (rw [IntKind.wrap_i64]; rfl)) ?_; simp only [List.getElem_toArray, List.getElem_cons_succ, List.getElem_cons_zero, Act.put, List.setIfInBounds_toArray, List.set_cons_succ, List.set_cons_zero])
  (refine tk 5 (.pointer (some ⟨sE, 0, none⟩)) rfl (by kernel_rfl) (by kernel_rfl) (by decide +kernel) (fun _ _ _ h => h) rfl (fun w_ => by unfold execOp; go_simp; first | done | rfl | (rw [IntKind.wrap_i64, wrap64]; done) | (rw [IntKind.wrap_i64]; rfl)) ?_; simp only [List.getElem_toArray, List.getElem_cons_succ, List.getElem_cons_zero, Act.put, List.setIfInBounds_toArray, List.set_cons_succ, List.set_cons_zero])
  (refine tk 8 (.pointer (some ⟨sE, 0, none⟩)) rfl (by kernel_rfl) (by kernel_rfl) (by decide +kernel) (fun _ _ _ h => h) rfl (fun w_ => by unfold execOp; go_simp; first | done | rfl | (rw [IntKind.wrap_i64, wrap64]; done) | (rw [IntKind.wrap_i64]; rfl)) ?_; simp only [List.getElem_toArray, List.getElem_cons_succ, List.getElem_cons_zero, Act.put, List.setIfInBounds_toArray, List.set_cons_succ, List.set_cons_zero])
  (refine tk 12 (.pointer (some ⟨g, 0, none⟩)) rfl (by kernel_rfl) (by kernel_rfl) (by decide +kernel) (fun _ _ _ h => h) rfl (fun w_ => by unfold execOp; go_simp; first | done | rfl | (rw [IntKind.wrap_i64, wrap64]; done) | (rw [IntKind.wrap_i64]; rfl)) ?_; simp only [List.getElem_toArray, List.getElem_cons_succ, List.getElem_cons_zero, Act.put, List.setIfInBounds_toArray, List.set_cons_succ, List.set_cons_zero])
  all_goals first | (refine wpAny_all (rs := [1, 6, 9]) (by decide +kernel) (by simp) ?_; intro i hi; simp only [List.mem_cons, List.not_mem_nil, or_false] at hi; rcases hi with rfl | rfl | rfl)
  all_goals first | (refine sp_wild rfl rfl (.tmp 29) rfl rfl hb Z hgE hgR ?_; clear Z; intro v30 wn d_ Z; clear d_; simp only [List.getElem_toArray, List.getElem_cons_succ, List.getElem_cons_zero, Act.put, List.setIfInBounds_toArray, List.set_cons_succ, List.set_cons_zero]) | (refine sp_ld rfl rfl (.tmp 34) rfl rfl HE0 NE Z ?_; simp only [List.getElem_toArray, List.getElem_cons_succ, List.getElem_cons_zero, Act.put, List.setIfInBounds_toArray, List.set_cons_succ, List.set_cons_zero]) | (refine sp_ld rfl rfl (.tmp 37) rfl rfl HE0 NE Z ?_; simp only [List.getElem_toArray, List.getElem_cons_succ, List.getElem_cons_zero, Act.put, List.setIfInBounds_toArray, List.set_cons_succ, List.set_cons_zero])
  all_goals (try (refine tk 7 (.int .i64 (wrap64 (e0 + 600))) rfl (by kernel_rfl) (by kernel_rfl) (by decide +kernel) (fun _ _ _ h => h) rfl (fun w_ => by unfold execOp; go_simp; first | done | rfl | (rw [IntKind.wrap_i64, wrap64]; done) | (rw [IntKind.wrap_i64]; rfl)) ?_; simp only [List.getElem_toArray, List.getElem_cons_succ, List.getElem_cons_zero, Act.put, List.setIfInBounds_toArray, List.set_cons_succ, List.set_cons_zero]))
  all_goals (try (refine tk 10 (.int .i64 (wrap64 (Int.tdiv e0 2))) rfl (by kernel_rfl) (by kernel_rfl) (by decide +kernel) (fun _ _ _ h => h) rfl (fun w_ => by unfold execOp; go_simp; first | done | rfl | (rw [IntKind.wrap_i64, wrap64]; done) | (rw [IntKind.wrap_i64]; rfl)) ?_; simp only [List.getElem_toArray, List.getElem_cons_succ, List.getElem_cons_zero, Act.put, List.setIfInBounds_toArray, List.set_cons_succ, List.set_cons_zero]))
  all_goals first | (refine wpAny_all (rs := [1, 6]) (by decide +kernel) (by simp) ?_; intro i hi; simp only [List.mem_cons, List.not_mem_nil, or_false] at hi; rcases hi with rfl | rfl) | (refine wpAny_all (rs := [1, 9]) (by decide +kernel) (by simp) ?_; intro i hi; simp only [List.mem_cons, List.not_mem_nil, or_false] at hi; rcases hi with rfl | rfl) | (refine wpAny_all (rs := [3, 6, 9]) (by decide +kernel) (by simp) ?_; intro i hi; simp only [List.mem_cons, List.not_mem_nil, or_false] at hi; rcases hi with rfl | rfl | rfl)
  all_goals first | (refine sp_wild rfl rfl (.tmp 29) rfl rfl hb Z hgE hgR ?_; clear Z; intro v30 wn d_ Z; clear d_; simp only [List.getElem_toArray, List.getElem_cons_succ, List.getElem_cons_zero, Act.put, List.setIfInBounds_toArray, List.set_cons_succ, List.set_cons_zero]) | (refine sp_n (k := 2) rfl rfl (.tmp 31) _ rfl rfl rfl (by decide) (by decide) hb Z hgE hgR ?_; clear Z; intro v32 wn hv_ d_ Z; clear d_ hv_; simp only [List.getElem_toArray, List.getElem_cons_succ, List.getElem_cons_zero, Act.put, List.setIfInBounds_toArray, List.set_cons_succ, List.set_cons_zero]) | (refine sp_ld rfl rfl (.tmp 34) rfl rfl HE0 NE Z ?_; simp only [List.getElem_toArray, List.getElem_cons_succ, List.getElem_cons_zero, Act.put, List.setIfInBounds_toArray, List.set_cons_succ, List.set_cons_zero]) | (refine sp_ld rfl rfl (.tmp 37) rfl rfl HE0 NE Z ?_; simp only [List.getElem_toArray, List.getElem_cons_succ, List.getElem_cons_zero, Act.put, List.setIfInBounds_toArray, List.set_cons_succ, List.set_cons_zero])
  all_goals (try (refine tk 4 (.int .i64 (wrap64 (262144 + v32))) rfl (by kernel_rfl) (by kernel_rfl) (by decide +kernel) (fun _ _ _ h => h) rfl (fun w_ => by unfold execOp; go_simp; first | done | rfl | (rw [IntKind.wrap_i64, wrap64]; done) | (rw [IntKind.wrap_i64]; rfl)) ?_; simp only [List.getElem_toArray, List.getElem_cons_succ, List.getElem_cons_zero, Act.put, List.setIfInBounds_toArray, List.set_cons_succ, List.set_cons_zero]))
  all_goals (try (refine tk 7 (.int .i64 (wrap64 (e0 + 600))) rfl (by kernel_rfl) (by kernel_rfl) (by decide +kernel) (fun _ _ _ h => h) rfl (fun w_ => by unfold execOp; go_simp; first | done | rfl | (rw [IntKind.wrap_i64, wrap64]; done) | (rw [IntKind.wrap_i64]; rfl)) ?_; simp only [List.getElem_toArray, List.getElem_cons_succ, List.getElem_cons_zero, Act.put, List.setIfInBounds_toArray, List.set_cons_succ, List.set_cons_zero]))
  all_goals (try (refine tk 10 (.int .i64 (wrap64 (Int.tdiv e0 2))) rfl (by kernel_rfl) (by kernel_rfl) (by decide +kernel) (fun _ _ _ h => h) rfl (fun w_ => by unfold execOp; go_simp; first | done | rfl | (rw [IntKind.wrap_i64, wrap64]; done) | (rw [IntKind.wrap_i64]; rfl)) ?_; simp only [List.getElem_toArray, List.getElem_cons_succ, List.getElem_cons_zero, Act.put, List.setIfInBounds_toArray, List.set_cons_succ, List.set_cons_zero]))
  all_goals first | (refine wpAny_all (rs := [1]) (by decide +kernel) (by simp) ?_; intro i hi; simp only [List.mem_cons, List.not_mem_nil, or_false] at hi; rcases hi with rfl) | (refine wpAny_all (rs := [3, 6]) (by decide +kernel) (by simp) ?_; intro i hi; simp only [List.mem_cons, List.not_mem_nil, or_false] at hi; rcases hi with rfl | rfl) | (refine wpAny_all (rs := [3, 9]) (by decide +kernel) (by simp) ?_; intro i hi; simp only [List.mem_cons, List.not_mem_nil, or_false] at hi; rcases hi with rfl | rfl) | (refine wpAny_all (rs := [6, 9, 13]) (by decide +kernel) (by simp) ?_; intro i hi; simp only [List.mem_cons, List.not_mem_nil, or_false] at hi; rcases hi with rfl | rfl | rfl)
  all_goals first | (refine sp_wild rfl rfl (.tmp 29) rfl rfl hb Z hgE hgR ?_; clear Z; intro v30 wn d_ Z; clear d_; simp only [List.getElem_toArray, List.getElem_cons_succ, List.getElem_cons_zero, Act.put, List.setIfInBounds_toArray, List.set_cons_succ, List.set_cons_zero]) | (refine sp_n (k := 2) rfl rfl (.tmp 31) _ rfl rfl rfl (by decide) (by decide) hb Z hgE hgR ?_; clear Z; intro v32 wn hv_ d_ Z; clear d_ hv_; simp only [List.getElem_toArray, List.getElem_cons_succ, List.getElem_cons_zero, Act.put, List.setIfInBounds_toArray, List.set_cons_succ, List.set_cons_zero]) | (refine sp_ld rfl rfl (.tmp 34) rfl rfl HE0 NE Z ?_; simp only [List.getElem_toArray, List.getElem_cons_succ, List.getElem_cons_zero, Act.put, List.setIfInBounds_toArray, List.set_cons_succ, List.set_cons_zero]) | (refine sp_ld rfl rfl (.tmp 37) rfl rfl HE0 NE Z ?_; simp only [List.getElem_toArray, List.getElem_cons_succ, List.getElem_cons_zero, Act.put, List.setIfInBounds_toArray, List.set_cons_succ, List.set_cons_zero]) | (refine sp_n (k := 4) rfl rfl (.tmp 41) _ rfl rfl rfl (by decide) (by decide) hb Z hgE hgR ?_; clear Z; intro v42 wn hv_ d_ Z; (try (have X_ := Aside0.mk (I.out.draw d_ hg0); clear I; have I := X_; clear X_)); clear d_; obtain ⟨q42, rfl⟩ := Int.eq_ofNat_of_zero_le hv_.1; have Q42 : Aside0 (q42 < 4) := ⟨by omega⟩; clear hv_; simp only [List.getElem_toArray, List.getElem_cons_succ, List.getElem_cons_zero, Act.put, List.setIfInBounds_toArray, List.set_cons_succ, List.set_cons_zero])
  all_goals (try (refine tk 4 (.int .i64 (wrap64 (262144 + v32))) rfl (by kernel_rfl) (by kernel_rfl) (by decide +kernel) (fun _ _ _ h => h) rfl (fun w_ => by unfold execOp; go_simp; first | done | rfl | (rw [IntKind.wrap_i64, wrap64]; done) | (rw [IntKind.wrap_i64]; rfl)) ?_; simp only [List.getElem_toArray, List.getElem_cons_succ, List.getElem_cons_zero, Act.put, List.setIfInBounds_toArray, List.set_cons_succ, List.set_cons_zero]))
  all_goals (try (refine tk 7 (.int .i64 (wrap64 (e0 + 600))) rfl (by kernel_rfl) (by kernel_rfl) (by decide +kernel) (fun _ _ _ h => h) rfl (fun w_ => by unfold execOp; go_simp; first | done | rfl | (rw [IntKind.wrap_i64, wrap64]; done) | (rw [IntKind.wrap_i64]; rfl)) ?_; simp only [List.getElem_toArray, List.getElem_cons_succ, List.getElem_cons_zero, Act.put, List.setIfInBounds_toArray, List.set_cons_succ, List.set_cons_zero]))
  all_goals (try (refine tk 10 (.int .i64 (wrap64 (Int.tdiv e0 2))) rfl (by kernel_rfl) (by kernel_rfl) (by decide +kernel) (fun _ _ _ h => h) rfl (fun w_ => by unfold execOp; go_simp; first | done | rfl | (rw [IntKind.wrap_i64, wrap64]; done) | (rw [IntKind.wrap_i64]; rfl)) ?_; simp only [List.getElem_toArray, List.getElem_cons_succ, List.getElem_cons_zero, Act.put, List.setIfInBounds_toArray, List.set_cons_succ, List.set_cons_zero]))
  all_goals first | (refine wpAny_all (rs := [3]) (by decide +kernel) (by simp) ?_; intro i hi; simp only [List.mem_cons, List.not_mem_nil, or_false] at hi; rcases hi with rfl) | (refine wpAny_all (rs := [6, 9]) (by decide +kernel) (by simp) ?_; intro i hi; simp only [List.mem_cons, List.not_mem_nil, or_false] at hi; rcases hi with rfl | rfl) | (refine wpAny_all (rs := [6, 13]) (by decide +kernel) (by simp) ?_; intro i hi; simp only [List.mem_cons, List.not_mem_nil, or_false] at hi; rcases hi with rfl | rfl) | (refine wpAny_all (rs := [9, 13]) (by decide +kernel) (by simp) ?_; intro i hi; simp only [List.mem_cons, List.not_mem_nil, or_false] at hi; rcases hi with rfl | rfl)
  all_goals first | (refine sp_n (k := 2) rfl rfl (.tmp 31) _ rfl rfl rfl (by decide) (by decide) hb Z hgE hgR ?_; clear Z; intro v32 wn hv_ d_ Z; clear d_ hv_; simp only [List.getElem_toArray, List.getElem_cons_succ, List.getElem_cons_zero, Act.put, List.setIfInBounds_toArray, List.set_cons_succ, List.set_cons_zero]) | (refine sp_ld rfl rfl (.tmp 34) rfl rfl HE0 NE Z ?_; simp only [List.getElem_toArray, List.getElem_cons_succ, List.getElem_cons_zero, Act.put, List.setIfInBounds_toArray, List.set_cons_succ, List.set_cons_zero]) | (refine sp_ld rfl rfl (.tmp 37) rfl rfl HE0 NE Z ?_; simp only [List.getElem_toArray, List.getElem_cons_succ, List.getElem_cons_zero, Act.put, List.setIfInBounds_toArray, List.set_cons_succ, List.set_cons_zero]) | (refine sp_n (k := 4) rfl rfl (.tmp 41) _ rfl rfl rfl (by decide) (by decide) hb Z hgE hgR ?_; clear Z; intro v42 wn hv_ d_ Z; (try (have X_ := Aside0.mk (I.out.draw d_ hg0); clear I; have I := X_; clear X_)); clear d_; obtain ⟨q42, rfl⟩ := Int.eq_ofNat_of_zero_le hv_.1; have Q42 : Aside0 (q42 < 4) := ⟨by omega⟩; clear hv_; simp only [List.getElem_toArray, List.getElem_cons_succ, List.getElem_cons_zero, Act.put, List.setIfInBounds_toArray, List.set_cons_succ, List.set_cons_zero])
  all_goals (try (refine tk 4 (.int .i64 (wrap64 (262144 + v32))) rfl (by kernel_rfl) (by kernel_rfl) (by decide +kernel) (fun _ _ _ h => h) rfl (fun w_ => by unfold execOp; go_simp; first | done | rfl | (rw [IntKind.wrap_i64, wrap64]; done) | (rw [IntKind.wrap_i64]; rfl)) ?_; simp only [List.getElem_toArray, List.getElem_cons_succ, List.getElem_cons_zero, Act.put, List.setIfInBounds_toArray, List.set_cons_succ, List.set_cons_zero]))
  all_goals (try (refine tk 7 (.int .i64 (wrap64 (e0 + 600))) rfl (by kernel_rfl) (by kernel_rfl) (by decide +kernel) (fun _ _ _ h => h) rfl (fun w_ => by unfold execOp; go_simp; first | done | rfl | (rw [IntKind.wrap_i64, wrap64]; done) | (rw [IntKind.wrap_i64]; rfl)) ?_; simp only [List.getElem_toArray, List.getElem_cons_succ, List.getElem_cons_zero, Act.put, List.setIfInBounds_toArray, List.set_cons_succ, List.set_cons_zero]))
  all_goals (try (refine tk 10 (.int .i64 (wrap64 (Int.tdiv e0 2))) rfl (by kernel_rfl) (by kernel_rfl) (by decide +kernel) (fun _ _ _ h => h) rfl (fun w_ => by unfold execOp; go_simp; first | done | rfl | (rw [IntKind.wrap_i64, wrap64]; done) | (rw [IntKind.wrap_i64]; rfl)) ?_; simp only [List.getElem_toArray, List.getElem_cons_succ, List.getElem_cons_zero, Act.put, List.setIfInBounds_toArray, List.set_cons_succ, List.set_cons_zero]))
  all_goals first | (refine wpAny_all (rs := [6]) (by decide +kernel) (by simp) ?_; intro i hi; simp only [List.mem_cons, List.not_mem_nil, or_false] at hi; rcases hi with rfl) | (refine wpAny_all (rs := [9]) (by decide +kernel) (by simp) ?_; intro i hi; simp only [List.mem_cons, List.not_mem_nil, or_false] at hi; rcases hi with rfl) | (refine wpAny_all (rs := [11, 13]) (by decide +kernel) (by simp) ?_; intro i hi; simp only [List.mem_cons, List.not_mem_nil, or_false] at hi; rcases hi with rfl | rfl)
  all_goals first | (refine sp_ld rfl rfl (.tmp 34) rfl rfl HE0 NE Z ?_; simp only [List.getElem_toArray, List.getElem_cons_succ, List.getElem_cons_zero, Act.put, List.setIfInBounds_toArray, List.set_cons_succ, List.set_cons_zero]) | (refine sp_ld rfl rfl (.tmp 37) rfl rfl HE0 NE Z ?_; simp only [List.getElem_toArray, List.getElem_cons_succ, List.getElem_cons_zero, Act.put, List.setIfInBounds_toArray, List.set_cons_succ, List.set_cons_zero]) | (refine sp_lit rfl rfl (N := 40) rfl (xs := [v30, wrap64 (262144 + v32), wrap64 (e0 + 600), wrap64 (Int.tdiv e0 2)]) (by simp) Z S0 hg0 ?hr ?_; (case hr => first | (go_simp; done) | (go_simp; rfl)); clear Z; intro vl wn I Z; simp only [List.getElem_toArray, List.getElem_cons_succ, List.getElem_cons_zero, Act.put, List.setIfInBounds_toArray, List.set_cons_succ, List.set_cons_zero]) | (refine sp_n (k := 4) rfl rfl (.tmp 41) _ rfl rfl rfl (by decide) (by decide) hb Z hgE hgR ?_; clear Z; intro v42 wn hv_ d_ Z; (try (have X_ := Aside0.mk (I.out.draw d_ hg0); clear I; have I := X_; clear X_)); clear d_; obtain ⟨q42, rfl⟩ := Int.eq_ofNat_of_zero_le hv_.1; have Q42 : Aside0 (q42 < 4) := ⟨by omega⟩; clear hv_; simp only [List.getElem_toArray, List.getElem_cons_succ, List.getElem_cons_zero, Act.put, List.setIfInBounds_toArray, List.set_cons_succ, List.set_cons_zero])
  all_goals (try (refine tk 7 (.int .i64 (wrap64 (e0 + 600))) rfl (by kernel_rfl) (by kernel_rfl) (by decide +kernel) (fun _ _ _ h => h) rfl (fun w_ => by unfold execOp; go_simp; first | done | rfl | (rw [IntKind.wrap_i64, wrap64]; done) | (rw [IntKind.wrap_i64]; rfl)) ?_; simp only [List.getElem_toArray, List.getElem_cons_succ, List.getElem_cons_zero, Act.put, List.setIfInBounds_toArray, List.set_cons_succ, List.set_cons_zero]))
  all_goals (try (refine tk 10 (.int .i64 (wrap64 (Int.tdiv e0 2))) rfl (by kernel_rfl) (by kernel_rfl) (by decide +kernel) (fun _ _ _ h => h) rfl (fun w_ => by unfold execOp; go_simp; first | done | rfl | (rw [IntKind.wrap_i64, wrap64]; done) | (rw [IntKind.wrap_i64]; rfl)) ?_; simp only [List.getElem_toArray, List.getElem_cons_succ, List.getElem_cons_zero, Act.put, List.setIfInBounds_toArray, List.set_cons_succ, List.set_cons_zero]))
  all_goals first | (refine wpAny_all (rs := [11]) (by decide +kernel) (by simp) ?_; intro i hi; simp only [List.mem_cons, List.not_mem_nil, or_false] at hi; rcases hi with rfl) | (refine wpAny_all (rs := [13]) (by decide +kernel) (by simp) ?_; intro i hi; simp only [List.mem_cons, List.not_mem_nil, or_false] at hi; rcases hi with rfl)
  all_goals first | (refine sp_lit rfl rfl (N := 40) rfl (xs := [v30, wrap64 (262144 + v32), wrap64 (e0 + 600), wrap64 (Int.tdiv e0 2)]) (by simp) Z S0 hg0 ?hr ?_; (case hr => first | (go_simp; done) | (go_simp; rfl)); clear Z; intro vl wn I Z; simp only [List.getElem_toArray, List.getElem_cons_succ, List.getElem_cons_zero, Act.put, List.setIfInBounds_toArray, List.set_cons_succ, List.set_cons_zero]) | (refine sp_n (k := 4) rfl rfl (.tmp 41) _ rfl rfl rfl (by decide) (by decide) hb Z hgE hgR ?_; clear Z; intro v42 wn hv_ d_ Z; (try (have X_ := Aside0.mk (I.out.draw d_ hg0); clear I; have I := X_; clear X_)); clear d_; obtain ⟨q42, rfl⟩ := Int.eq_ofNat_of_zero_le hv_.1; have Q42 : Aside0 (q42 < 4) := ⟨by omega⟩; clear hv_; simp only [List.getElem_toArray, List.getElem_cons_succ, List.getElem_cons_zero, Act.put, List.setIfInBounds_toArray, List.set_cons_succ, List.set_cons_zero])
  all_goals (
    obtain ⟨adl, cl, xl, rfl, hxl⟩ := Ri.at_ (n := 4) I.out q42 Q42.out
    clear I
    have i42_0 : (0 ≤ (q42 : Int)) = True := eq_true (by omega)
    have i42_1 : ((q42 : Int) < 4) = True := eq_true (by have := Q42.out; omega)
    have i42_2 : (q42 < 4) = True := eq_true Q42.out
    (refine tk 14 (.pointer (some (adl.add q42))) rfl (by kernel_rfl) (by kernel_rfl) (by decide +kernel) (fun _ _ _ h => h) rfl (fun w_ => by unfold execOp; go_simp; first | done | rfl | (rw [IntKind.wrap_i64, wrap64]; done) | (rw [IntKind.wrap_i64]; rfl)) ?_; simp only [List.getElem_toArray, List.getElem_cons_succ, List.getElem_cons_zero, Act.put, List.setIfInBounds_toArray, List.set_cons_succ, List.set_cons_zero])
    refine wpAny_all (rs := [15]) (by kernel_rfl) (by simp) ?_
    intro i hi
    obtain rfl := List.mem_singleton.1 hi
    refine op_run rfl rfl (.int .i64 xl) (by first | (unfold execOp; go_simp; done) | (unfold execOp; go_simp; rfl)) ?_
    simp only [List.getElem_toArray, List.getElem_cons_succ, List.getElem_cons_zero, Act.put, List.setIfInBounds_toArray, List.set_cons_succ, List.set_cons_zero]
    (refine tk 16 (.pointer (some ⟨sE, 0, none⟩)) rfl (by kernel_rfl) (by kernel_rfl) (by decide +kernel) (fun _ _ _ h => h) rfl (fun w_ => by unfold execOp; go_simp; first | done | rfl | (rw [IntKind.wrap_i64, wrap64]; done) | (rw [IntKind.wrap_i64]; rfl)) ?_; simp only [List.getElem_toArray, List.getElem_cons_succ, List.getElem_cons_zero, Act.put, List.setIfInBounds_toArray, List.set_cons_succ, List.set_cons_zero])
    refine wpAny_all (rs := [17]) (by kernel_rfl) (by simp) ?_
    intro i hi
    obtain rfl := List.mem_singleton.1 hi
    refine st_storef rfl rfl rfl 3 (.tmp 45) (.tmp 44) rfl rfl xl rfl (by kernel_rfl) Z.out.e (by rw [NE.out]; decide) ?_
    intro wn tn_ gn_
    have BE : Aside0 (Blk 15 28 sE wn) := ⟨Blk.of (by rw [List.length_set, NE.out]) gn_⟩
    have BR := Aside0.mk (Z.out.r.touch tn_ (by omega))
    have D := Aside0.mk (Z.out.d.touch S0 hg0 hE tn_)
    clear gn_ Z tn_
    refine wpAny_done (by kernel_rfl) ?_ _
    go_wp2_with (first | ((with_reducible refine gate_dst (N := 54) rfl ?_); refine ex_load rfl 28 (.tmp 4) rfl sE rfl Try.underlying28 rfl (by kernel_rfl) BE.out ?_; intro LL nLL_; have NLL := Aside0.mk nLL_; clear nLL_) | ((with_reducible refine gate_store (t := 28) (p := 6) (v := .tmp 54) rfl ?_); refine ex_store rfl rfl 28 (.tmp 6) (.tmp 54) rfl sR rfl _ rfl (by kernel_rfl) NLL.out BR.out ?_; clear BR; intro wn tn_ gn_; have X_ := Aside0.mk (BE.out.touch tn_ (by omega)); clear BE; have BE := X_; clear X_; have X_ := Aside0.mk (D.out.touch S0 hg0 hR tn_); clear D; have D := X_; clear X_; have BR := Aside0.mk gn_; clear tn_ gn_))
    (obtain ⟨LR, nR, gR⟩ := BR.out; exact bodyPost_ret (results_cell_row rfl _ _ sR 28 (nums .i64 LR).toArray (0, 0) _ rfl gR Try.underlying28 rfl (by rw [nums_size _ _ _ nR]; kernel_rfl)) rfl ⟨LR, rfl, nR, D.out⟩))
end Go.Proofs.Ytkghgjehjchajaa.PFnTable
