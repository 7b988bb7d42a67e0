/- Words for slices whose elements are structs of whole numbers, each told as one list. No condition. -/
import Derived.Test.YtknlpjoidjgciaaDoorWHx
import Derived.Deep.QuietTactic
namespace Go.Proofs.YtknlpjoidjgciaaDoorW.PrintHx
open Go.RowKit Go.Proofs.YtknlpjoidjgciaaDoorW.PrintWords Go.Proofs.YtknlpjoidjgciaaDoorW.PrintHand
set_option linter.unusedVariables false
/-- An element of a slice that is read. -/
theorem wide_at {n : Nat} {W : World} {A : Option Addr} {len : Nat} {xs : List (List Int)} (h : Kd.C (wide n) W A len xs) (j : Nat) (hj : j < len) :
    ∃ ad, A = some ad ∧ (xs.getD j []).length = n ∧ ∀ i, i < n → W.cell? (ad.add (j * n + i)) = some (.int .i64 ((xs.getD j []).getD i 0)) := by
  obtain ⟨ad, c, he, hl, ⟨h1, h2⟩, h3⟩ := ReadsRow.get_ h [] (j : Int) (by omega) (by omega)
  refine ⟨ad, he, h1, fun i hi => ?_⟩
  rw [Int.toNat_natCast] at h1 h2 h3
  refine h3 i _ ?_
  have hi' : i < (xs.getD j []).length := by omega
  rw [h2]
  generalize xs.getD j [] = L at hi' ⊢
  simp [nums, List.getElem?_eq_getElem hi']
theorem wide_len {n : Nat} {W : World} {A : Option Addr} {xs : List (List Int)} (h : Kd.C (wide n) W A xs.length xs) : ∀ x ∈ xs, x.length = n := by
  intro x hx
  obtain ⟨j, hj, rfl⟩ := List.getElem_of_mem hx
  obtain ⟨_, _, h1, _⟩ := wide_at h j hj
  rw [List.getD_eq_getElem?_getD, List.getElem?_eq_getElem hj] at h1
  exact h1
/-- A part of a variable of whole numbers, read as a row. -/
theorem part_reads {W : World} {g : Nat} {t : TypeId} {L : List Int} (h : W.heap[g]? = some (.cells (nums .i64 L).toArray t (0, 0))) (o m : Nat) (hl : o + m ≤ L.length) (hm : m ≤ 9223372036854775807) : Kd.C (Kd.int .i64) W (some ⟨g, o, none⟩) m (seg L o m) := by
  refine ⟨by rw [seg, List.length_take, List.length_drop]; omega, hm, fun _ => ⟨_, rfl, fun j p hj => ⟨[.int .i64 p], rfl, rfl, fun i u hu => ?_⟩⟩⟩
  have hi : i = 0 := by
    have := (List.getElem?_eq_some_iff.1 hu).1
    simpa using this
  subst hi
  have hj2 : j < m := by
    have := (List.getElem?_eq_some_iff.1 hj).1
    rw [seg, List.length_take] at this
    omega
  have hp : L[o + j]? = some p := by
    rw [seg, List.getElem?_take, if_pos hj2, List.getElem?_drop] at hj
    exact hj
  have hu2 : u = .int .i64 p := by simpa using hu.symm
  subst hu2
  have ha : (⟨g, o, none⟩ : Addr).add (j * (Kd.int .i64).sz + 0) = ⟨g, o + j, none⟩ := by
    show (⟨g, o, none⟩ : Addr).add (j * 1 + 0) = _
    unfold Addr.add
    split <;> simp_all
  rw [ha, row_cell h (o + j) (by omega), List.getD_eq_getElem?_getD, hp]
  rfl
theorem reps_ints {w : World} {base : Nat} {ok : Nat → Prop} (xs : List Int) : Reps ((Kd.int .i64).M w base ok) 1 xs (nums .i64 xs) := by
  refine ⟨by simp [nums], fun j p hj => ?_⟩
  show _ = [Value.int .i64 p]
  have hjl := (List.getElem?_eq_some_iff.1 hj).1
  rw [Nat.mul_one]
  have e : (nums .i64 xs)[j]? = some (.int .i64 p) := by simp [nums, hj]
  have hjn : j < (nums .i64 xs).length := (List.getElem?_eq_some_iff.1 e).1
  rw [List.drop_eq_getElem_cons hjn, List.take_succ_cons, List.take_zero]
  rw [List.getElem?_eq_getElem hjn] at e
  rw [Option.some.inj e]
theorem pointers_of (a0 : List Int) (h : a0.length = 15) : ([] ++ seg a0 1 12) ++ [a0.getD 13 0, a0.getD 14 0] = seg a0 1 14 := by
  obtain ⟨x0, a1, rfl, h0⟩ := cons_of_len h
  obtain ⟨x1, a2, rfl, h1⟩ := cons_of_len h0
  obtain ⟨x2, a3, rfl, h2⟩ := cons_of_len h1
  obtain ⟨x3, a4, rfl, h3⟩ := cons_of_len h2
  obtain ⟨x4, a5, rfl, h4⟩ := cons_of_len h3
  obtain ⟨x5, a6, rfl, h5⟩ := cons_of_len h4
  obtain ⟨x6, a7, rfl, h6⟩ := cons_of_len h5
  obtain ⟨x7, a8, rfl, h7⟩ := cons_of_len h6
  obtain ⟨x8, a9, rfl, h8⟩ := cons_of_len h7
  obtain ⟨x9, a10, rfl, h9⟩ := cons_of_len h8
  obtain ⟨x10, a11, rfl, h10⟩ := cons_of_len h9
  obtain ⟨x11, a12, rfl, h11⟩ := cons_of_len h10
  obtain ⟨x12, a13, rfl, h12⟩ := cons_of_len h11
  obtain ⟨x13, a14, rfl, h13⟩ := cons_of_len h12
  obtain ⟨x14, a15, rfl, h14⟩ := cons_of_len h13
  obtain rfl := List.length_eq_zero_iff.mp h14
  rfl
/-- Is a root right? -/
def least (i : Nat) : Int := if i = 12 then 12 else if i = 13 then 140 else (i : Int)
def ptrOk (p : Int) : Bool := decide (p = 0) || (decide (2 ≤ p) && decide (p < 2048))
def ptrFits (a : List Int) (i : Nat) : Bool := ptrOk ((seg a 1 14).getD i 0) && (decide ((seg a 1 14).getD i 0 = 0) || decide (least i < (a.getD 0 0 + 511) / 512))
def rootGood (a : List Int) : Bool := decide (0 ≤ a.getD 0 0) && (decide (a.getD 0 0 ≤ 262144) && (List.range 14).all (ptrFits a))
theorem rootGood_low {a : List Int} (h : a.getD 0 0 < 0) : rootGood a = false := by rw [rootGood, decide_eq_false (show ¬ 0 ≤ a.getD 0 0 by omega)]; rfl
theorem rootGood_high {a : List Int} (h : 262144 < a.getD 0 0) : rootGood a = false := by rw [rootGood, decide_eq_false (show ¬ a.getD 0 0 ≤ 262144 by omega)]; simp
theorem rootGood_bad {a : List Int} (j : Nat) (hj : j < 14) (h : ptrFits a j = false) : rootGood a = false := by
  have : (List.range 14).all (ptrFits a) = false := by
    rw [List.all_eq_false]
    exact ⟨j, List.mem_range.2 hj, by simp [h]⟩
  rw [rootGood, this]
  simp
theorem rootGood_ok {a : List Int} (h0 : 0 ≤ a.getD 0 0) (h1 : a.getD 0 0 ≤ 262144) (h : ∀ j, j < 14 → ptrFits a j = true) : rootGood a = true := by
  have : (List.range 14).all (ptrFits a) = true := by
    rw [List.all_eq_true]
    exact fun j hj => h j (List.mem_range.1 hj)
  rw [rootGood, this, decide_eq_true h0, decide_eq_true h1]
  rfl
theorem ptrFits_of {a : List Int} (j : Nat) (h : ptrOk ((seg a 1 14).getD j 0) = true) (h2 : (seg a 1 14).getD j 0 = 0 ∨ least j < (a.getD 0 0 + 511) / 512) : ptrFits a j = true := by
  unfold ptrFits
  rw [h]
  rcases h2 with h2 | h2
  · rw [decide_eq_true h2]; rfl
  · rw [decide_eq_true h2]; simp
theorem ptrFits_not {a : List Int} (j : Nat) (h : ¬ (seg a 1 14).getD j 0 = 0) (h2 : ¬ least j < (a.getD 0 0 + 511) / 512) : ptrFits a j = false := by
  unfold ptrFits
  rw [decide_eq_false h, decide_eq_false h2]
  simp
theorem seg_getD (a : List Int) (o m i : Nat) (hi : i < m) : (seg a o m).getD i 0 = a.getD (o + i) 0 := by
  unfold seg
  rw [List.getD_eq_getElem?_getD, List.getElem?_take, if_pos hi, List.getElem?_drop, List.getD_eq_getElem?_getD]
theorem rootGood_end {a : List Int} (h0 : 0 ≤ a.getD 0 0) (h1 : a.getD 0 0 ≤ 262144) (hp : ∀ j, j < 14 → ptrOk ((seg a 1 14).getD j 0) = true) (hd : ∀ j, j < 12 → (seg a 1 14).getD j 0 = 0 ∨ (j : Int) < (a.getD 0 0 + 511) / 512)
    (h12 : a.getD 13 0 = 0 ∨ 12 < (a.getD 0 0 + 511) / 512) (h13 : a.getD 14 0 = 0 ∨ 140 < (a.getD 0 0 + 511) / 512) : rootGood a = true := by
  refine rootGood_ok h0 h1 (fun j hj => ptrFits_of j (hp j hj) ?_)
  by_cases c12 : j = 12
  · subst c12
    rw [seg_getD _ _ _ _ (by decide), least, if_pos rfl]
    exact h12
  · by_cases c13 : j = 13
    · subst c13
      rw [seg_getD _ _ _ _ (by decide), least, if_neg (by decide), if_pos rfl]
      exact h13
    · rw [least, if_neg c12, if_neg c13]
      exact hd j (by omega)
theorem rootGood_dir {a : List Int} (j : Nat) (hj : j < 12) (h : ¬ (seg a 1 14).getD j 0 = 0) (h2 : ¬ (j : Int) < (a.getD 0 0 + 511) / 512) : rootGood a = false :=
  rootGood_bad j (by omega) (ptrFits_not j h (by rw [least, if_neg (by omega), if_neg (by omega)]; exact h2))
theorem rootGood_12 {a : List Int} (h : ¬ a.getD 13 0 = 0) (h2 : ¬ 12 < (a.getD 0 0 + 511) / 512) : rootGood a = false :=
  rootGood_bad 12 (by decide) (ptrFits_not 12 (by rw [seg_getD _ _ _ _ (by decide)]; exact h) (by rw [least, if_pos rfl]; exact h2))
theorem rootGood_13 {a : List Int} (h : ¬ a.getD 14 0 = 0) (h2 : ¬ 140 < (a.getD 0 0 + 511) / 512) : rootGood a = false :=
  rootGood_bad 13 (by decide) (ptrFits_not 13 (by rw [seg_getD _ _ _ _ (by decide)]; exact h) (by rw [least, if_neg (by decide), if_pos rfl]; exact h2))
/-- The lowest free number from n on, d tried. -/
def lowest (l : List (List Int)) : Nat → Nat → Int
  | 0, _ => 0
  | d + 1, n => if l.length ≤ n then (n : Int) else if (l.getD n []).getD 0 0 = 0 then (n : Int) else lowest l d (n + 1)
section
variable {P : Program} {ops : Array Oper} {rest : List Oper} {o : Oper} {a : Act} {w : World} {Q : Exit → Act → World → Prop}
theorem run_load_nums (w : World) (ty : TypeId) (ad : Addr) (L : List Int) (n : Nat) (d : TypeDesc) (hu : P.underlying ty = some d) (hd : (match d with | .struct _ | .array _ _ => true | _ => false) = true) (hi : (P.info? ty).map (·.size) = some n) (hL : L.length = n)
    (hc : ∀ i, i < n → w.cell? (ad.add i) = some (.int .i64 (L.getD i 0))) : (loadVar ty ad).run P w = .ok (.agg (nums .i64 L).toArray) w := by
  have hl : (loadCells ad (nums .i64 L).length).run P w = .ok (nums .i64 L).toArray w :=
    run_loadCells_list (P := P) w ad (nums .i64 L) (fun j v hv => by
      have hj : j < L.length := by have := (List.getElem?_eq_some_iff.1 hv).1; simpa [nums] using this
      rw [hc j (by omega)]
      simpa [nums, List.getElem?_eq_getElem hj] using hv)
  cases hq : P.info? ty with
  | none => simp [hq] at hi
  | some i =>
    have hs : i.size = n := by simpa [hq] using hi
    have hn : (nums .i64 L).length = n := by simp [nums, hL]
    have hagg : (isAgg ty).run P w = .ok true w := by
      unfold isAgg
      rw [Sem.run_bind, run_underlying hu w]
      cases d <;> simp_all
    rw [hn] at hl
    simp [loadVar, Sem.run_bind, hagg, sizeOf, typeInfo, hq, hs, hl]
/-- A whole element read. -/
theorem hx_load_at (hgd : o.guard = none) (ty : TypeId) (x : Operand) (ho : o.op = .load ty x) (ad : Addr) (hx : a.eval x = .pointer (some ad)) {d : TypeDesc} (L : List Int) (n : Nat)
    (hu : P.underlying ty = some d) (hd : (match d with | .struct _ | .array _ _ => true | _ => false) = true) (hi : (P.info? ty).map (·.size) = some n) (hL : L.length = n)
    (hc : ∀ i, i < n → w.cell? (ad.add i) = some (.int .i64 (L.getD i 0)))
    (h : wpList P ops Q rest (a.put o.dst (.agg (nums .i64 L).toArray)) w) : wpList P ops Q (o :: rest) a w := by
  refine wpList_plain hgd fun K hK => ?_
  unfold Oper.wp execOp
  simp only [ho, hx, Instr.loadAt, Instr.sureAddr, Sem.run_bind, Sem.run_pure, Result.andThen_ok, run_load_nums w ty ad L n d hu hd hi hL hc]
  exact hK _ _ h
theorem run_index_nums (w : World) (ty e : TypeId) (m : Nat) (L : List Int) (j : Nat) (d : TypeDesc) (hu : P.underlying ty = some (.array m e)) (he : P.underlying e = some d) (hd : (match d with | .struct _ | .array _ _ => true | _ => false) = false) (hs : (P.info? e).map (·.size) = some 1) (hL : L.length = m) (hj : j < m) :
    (Instr.index ty (.agg (nums .i64 L).toArray) (.int .i64 (j : Int))).run P w = .ok (.int .i64 (L.getD j 0)) w := by
  have hagg : (isAgg e).run P w = .ok false w := by
    unfold isAgg
    rw [Sem.run_bind, run_underlying he w]
    cases d <;> simp_all
  obtain ⟨i, hq, hi⟩ := Option.map_eq_some_iff.1 hs
  have hj2 : j < L.length := by omega
  have hlt : (0 ≤ (j : Int) ∧ (j : Int) < (m : Int)) := by omega
  simp [Instr.index, asIntOf, Sem.run_bind, run_underlying hu w, hlt, hj, sizeOf, typeInfo, hq, hi, part, hagg, nums, hj2]
/-- An array's value, asked for one number. -/
theorem hx_index (hgd : o.guard = none) (ty e : TypeId) (m : Nat) (x i : Operand) (ho : o.op = .index ty x i) (L : List Int) (j : Nat) (d : TypeDesc) (hx : a.eval x = .agg (nums .i64 L).toArray) (hi : a.eval i = .int .i64 (j : Int))
    (hu : P.underlying ty = some (.array m e)) (he : P.underlying e = some d) (hd : (match d with | .struct _ | .array _ _ => true | _ => false) = false) (hs : (P.info? e).map (·.size) = some 1) (hL : L.length = m) (hj : j < m)
    (h : wpList P ops Q rest (a.put o.dst (.int .i64 (L.getD j 0))) w) : wpList P ops Q (o :: rest) a w := by
  refine wpList_plain hgd fun K hK => ?_
  unfold Oper.wp execOp
  simp only [ho, hx, hi, Sem.run_bind, Sem.run_pure, Result.andThen_ok, run_index_nums w ty e m L j d hu he hd hs hL hj]
  exact hK _ _ h
/-- A whole element written. -/
theorem hx_put {n : Nat} {w0 : World} (base : Nat) (hN : o.dst = none) (hgd : o.guard = none) (t : TypeId) (p x : Operand) (ho : o.op = .store t p x) (e : TypeId) {g cap off : Nat} (j : Nat) (xs : List (List Int)) (L : List Int) (ok : Nat → Prop)
    (haddr : a.eval p = .pointer (some ⟨g, off, none⟩)) (hoff : off = j * n) (hx : a.eval x = .agg (nums .i64 L).toArray) (ht : (P.info? t).map (·.size) = some n) (hL : L.length = n)
    (HO : (wide n).R e w base ok (.slice (some ⟨g, 0, none⟩) xs.length cap) xs) (hj : j < xs.length) (HB : Below base w0 w)
    (h : ∀ w1, (wide n).R e w1 base ok (.slice (some ⟨g, 0, none⟩) xs.length cap) (xs.set j L) → Below base w0 w1 → w.grownBy w1 (some g) → wpList P ops Q rest a w1) : wpList P ops Q (o :: rest) a w := by
  obtain ⟨c, hcl, hM, hcc, _⟩ := Kd.R_elem HO [] (j : Int) (by omega) (by omega)
  have hsz : (nums .i64 L).length = n := by simp [nums, hL]
  have hcl' : c.length = n := hcl
  refine Kd.R_store (wide n) (w0 := w0) base hN hgd t p x ho e (j : Int) 0 xs L (.agg (nums .i64 L).toArray) (nums .i64 L) c ok (fun k => ok k ∧ k ≠ g) haddr (by rw [hoff, Int.toNat_natCast]; rfl) hx (by simp [Value.cells]) (by rw [ht, hsz]) (fun q hq => ?_) HO (by omega) (by omega) hcl hcc (by rw [hsz]; exact Nat.le_of_eq (Nat.zero_add n)) ?_ (fun k hk => hk) HB (fun w1 h1 h2 h3 => h w1 (by rw [Int.toNat_natCast] at h1; exact h1) h2 h3)
  · obtain ⟨y, _, rfl⟩ := List.mem_map.1 hq
    rfl
  · refine ⟨hL, ?_⟩
    rw [List.take_zero, List.nil_append, List.drop_eq_nil_of_le (by omega), List.append_nil]
/-- A field of an element written. -/
theorem hx_putf {n : Nat} {w0 : World} (base : Nat) (hN : o.dst = none) (hgd : o.guard = none) (t : TypeId) (p x : Operand) (ho : o.op = .store t p x) (e : TypeId) {g cap off : Nat} (j f : Nat) (xs : List (List Int)) (v : Int) (ok : Nat → Prop)
    (haddr : a.eval p = .pointer (some ⟨g, off, none⟩)) (hoff : off = j * n + f) (hx : a.eval x = .int .i64 v) (ht : (P.info? t).map (·.size) = some 1) (hf : f < n)
    (HO : (wide n).R e w base ok (.slice (some ⟨g, 0, none⟩) xs.length cap) xs) (hj : j < xs.length) (HB : Below base w0 w)
    (h : ∀ w1, (wide n).R e w1 base ok (.slice (some ⟨g, 0, none⟩) xs.length cap) (xs.set j ((xs.getD j []).set f v)) → Below base w0 w1 → w.grownBy w1 (some g) → wpList P ops Q rest a w1) : wpList P ops Q (o :: rest) a w := by
  obtain ⟨c, hcl, hM, hcc, _⟩ := Kd.R_elem HO [] (j : Int) (by omega) (by omega)
  rw [Int.toNat_natCast] at hM
  have hcl' : c.length = n := hcl
  refine Kd.R_store (wide n) (w0 := w0) base hN hgd t p x ho e (j : Int) f xs ((xs.getD j []).set f v) (.int .i64 v) [.int .i64 v] c ok (fun k => ok k ∧ k ≠ g) haddr (by rw [hoff, Int.toNat_natCast]; rfl) hx rfl ht (fun q hq => ?_) HO (by omega) (by omega) hcl hcc (show f + 1 ≤ n by omega) ?_ (fun k hk => hk) HB (fun w1 h1 h2 h3 => h w1 (by rw [Int.toNat_natCast] at h1; exact h1) h2 h3)
  · rw [List.mem_singleton.1 hq]
    rfl
  · refine ⟨by rw [List.length_set]; exact hM.1, ?_⟩
    rw [hM.2, List.set_eq_take_append_cons_drop, if_pos (by rw [hM.1]; exact hf)]
    simp [nums, List.map_take, List.map_drop]
/-- A whole element read, in a region that draws. -/
theorem quiet_load_at {Qq : Act → Prop} (hgd : o.guard = none) (ty : TypeId) (x : Operand) (ho : o.op = .load ty x) (ad : Addr) (hx : a.eval x = .pointer (some ad)) {d : TypeDesc} (L : List Int) (n : Nat)
    (hu : P.underlying ty = some d) (hd : (match d with | .struct _ | .array _ _ => true | _ => false) = true) (hi : (P.info? ty).map (·.size) = some n) (hL : L.length = n)
    (hc : ∀ i, i < n → w.cell? (ad.add i) = some (.int .i64 (L.getD i 0)))
    (h : wpQuiet P ops (fun w' => ∃ m, w' = w.drewN m) Qq rest (a.put o.dst (.agg (nums .i64 L).toArray))) : wpQuiet P ops (fun w' => ∃ m, w' = w.drewN m) Qq (o :: rest) a := by
  refine wpQuiet_step (fun K hK => ?_)
  have hw : Region.wanted o (yielded ops a.tmps) = true := by simp [Region.wanted, hgd]
  rw [if_pos hw]
  refine ⟨.agg (nums .i64 L).toArray, ?_, hK _ h⟩
  rintro w' ⟨m, rfl⟩
  have hr := run_load_nums (P := P) (w.drewN m) ty ad L n d hu hd hi hL (fun i hi => hc i hi)
  unfold Oper.quietAt execOp
  simp only [ho, hx, Instr.loadAt, Instr.sureAddr, Sem.run_bind, Sem.run_pure, Result.andThen_ok, hr]
  exact ⟨rfl, rfl⟩
theorem wide_zero {n : Nat} (w : World) (base : Nat) (ok : Nat → Prop) : (wide n).M w base ok (List.replicate n 0) (nums .i64 (List.replicate n 0)) := ⟨by simp, rfl⟩
end
end Go.Proofs.YtknlpjoidjgciaaDoorW.PrintHx
