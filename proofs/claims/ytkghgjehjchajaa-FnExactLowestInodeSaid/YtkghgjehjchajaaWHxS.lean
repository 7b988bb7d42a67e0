/- Words for slices whose elements are structs of whole numbers, each told as one list. No condition. -/
import Derived.Test.YtkghgjehjchajaaWHx
import Derived.Deep.QuietTactic
namespace Go.Proofs.YtkghgjehjchajaaW.PrintHx
open Go.RowKit Go.Proofs.YtkghgjehjchajaaW.PrintWords Go.Proofs.YtkghgjehjchajaaW.PrintHand
set_option linter.unusedVariables false
/-- An element of a slice that is read. -/
theorem wide_at {n : Nat} {W : World} {A : Option Addr} {len : Nat} {xs : List (List Int)} (h : Kd.C (wide n) W A len xs) (j : Nat) (hj : j < len) :
    ∃ ad, A = some ad ∧ (xs.getD j []).length = n ∧ ∀ i, i < n → W.cell? (ad.add (j * n + i)) = some (.int .i64 ((xs.getD j []).getD i 0)) := by
  obtain ⟨ad, c, he, hl, ⟨h1, h2⟩, h3⟩ := ReadsRow.get_ h [] (j : Int) (by omega) (by omega)
  refine ⟨ad, he, h1, fun i hi => ?_⟩
  rw [Int.toNat_natCast] at h1 h2 h3
  refine h3 i _ ?_
  have hi' : i < (xs.getD j []).length := by omega
  rw [h2]
  generalize xs.getD j [] = L at hi' ⊢
  simp [nums, List.getElem?_eq_getElem hi']
theorem wide_len {n : Nat} {W : World} {A : Option Addr} {xs : List (List Int)} (h : Kd.C (wide n) W A xs.length xs) : ∀ x ∈ xs, x.length = n := by
  intro x hx
  obtain ⟨j, hj, rfl⟩ := List.getElem_of_mem hx
  obtain ⟨_, _, h1, _⟩ := wide_at h j hj
  rw [List.getD_eq_getElem?_getD, List.getElem?_eq_getElem hj] at h1
  exact h1
/-- The lowest free number from n on, d tried. -/
def lowest (l : List (List Int)) : Nat → Nat → Int
  | 0, _ => 0
  | d + 1, n => if l.length ≤ n then (n : Int) else if (l.getD n []).getD 0 0 = 0 then (n : Int) else lowest l d (n + 1)
section
variable {P : Program} {ops : Array Oper} {rest : List Oper} {o : Oper} {a : Act} {w : World} {Q : Exit → Act → World → Prop}
theorem run_load_nums (w : World) (ty : TypeId) (ad : Addr) (L : List Int) (n : Nat) (d : TypeDesc) (hu : P.underlying ty = some d) (hd : (match d with | .struct _ | .array _ _ => true | _ => false) = true) (hi : (P.info? ty).map (·.size) = some n) (hL : L.length = n)
    (hc : ∀ i, i < n → w.cell? (ad.add i) = some (.int .i64 (L.getD i 0))) : (loadVar ty ad).run P w = .ok (.agg (nums .i64 L).toArray) w := by
  have hl : (loadCells ad (nums .i64 L).length).run P w = .ok (nums .i64 L).toArray w :=
    run_loadCells_list (P := P) w ad (nums .i64 L) (fun j v hv => by
      have hj : j < L.length := by have := (List.getElem?_eq_some_iff.1 hv).1; simpa [nums] using this
      rw [hc j (by omega)]
      simpa [nums, List.getElem?_eq_getElem hj] using hv)
  cases hq : P.info? ty with
  | none => simp [hq] at hi
  | some i =>
    have hs : i.size = n := by simpa [hq] using hi
    have hn : (nums .i64 L).length = n := by simp [nums, hL]
    have hagg : (isAgg ty).run P w = .ok true w := by
      unfold isAgg
      rw [Sem.run_bind, run_underlying hu w]
      cases d <;> simp_all
    rw [hn] at hl
    simp [loadVar, Sem.run_bind, hagg, sizeOf, typeInfo, hq, hs, hl]
/-- A whole element read. -/
theorem hx_load_at (hgd : o.guard = none) (ty : TypeId) (x : Operand) (ho : o.op = .load ty x) (ad : Addr) (hx : a.eval x = .pointer (some ad)) {d : TypeDesc} (L : List Int) (n : Nat)
    (hu : P.underlying ty = some d) (hd : (match d with | .struct _ | .array _ _ => true | _ => false) = true) (hi : (P.info? ty).map (·.size) = some n) (hL : L.length = n)
    (hc : ∀ i, i < n → w.cell? (ad.add i) = some (.int .i64 (L.getD i 0)))
    (h : wpList P ops Q rest (a.put o.dst (.agg (nums .i64 L).toArray)) w) : wpList P ops Q (o :: rest) a w := by
  refine wpList_plain hgd fun K hK => ?_
  unfold Oper.wp execOp
  simp only [ho, hx, Instr.loadAt, Instr.sureAddr, Sem.run_bind, Sem.run_pure, Result.andThen_ok, run_load_nums w ty ad L n d hu hd hi hL hc]
  exact hK _ _ h
/-- A whole element written. -/
theorem hx_put {n : Nat} {w0 : World} (base : Nat) (hN : o.dst = none) (hgd : o.guard = none) (t : TypeId) (p x : Operand) (ho : o.op = .store t p x) (e : TypeId) {g cap off : Nat} (j : Nat) (xs : List (List Int)) (L : List Int) (ok : Nat → Prop)
    (haddr : a.eval p = .pointer (some ⟨g, off, none⟩)) (hoff : off = j * n) (hx : a.eval x = .agg (nums .i64 L).toArray) (ht : (P.info? t).map (·.size) = some n) (hL : L.length = n)
    (HO : (wide n).R e w base ok (.slice (some ⟨g, 0, none⟩) xs.length cap) xs) (hj : j < xs.length) (HB : Below base w0 w)
    (h : ∀ w1, (wide n).R e w1 base ok (.slice (some ⟨g, 0, none⟩) xs.length cap) (xs.set j L) → Below base w0 w1 → w.grownBy w1 (some g) → wpList P ops Q rest a w1) : wpList P ops Q (o :: rest) a w := by
  obtain ⟨c, hcl, hM, hcc, _⟩ := Kd.R_elem HO [] (j : Int) (by omega) (by omega)
  have hsz : (nums .i64 L).length = n := by simp [nums, hL]
  have hcl' : c.length = n := hcl
  refine Kd.R_store (wide n) (w0 := w0) base hN hgd t p x ho e (j : Int) 0 xs L (.agg (nums .i64 L).toArray) (nums .i64 L) c ok (fun k => ok k ∧ k ≠ g) haddr (by rw [hoff, Int.toNat_natCast]; rfl) hx (by simp [Value.cells]) (by rw [ht, hsz]) (fun q hq => ?_) HO (by omega) (by omega) hcl hcc (by rw [hsz]; exact Nat.le_of_eq (Nat.zero_add n)) ?_ (fun k hk => hk) HB (fun w1 h1 h2 h3 => h w1 (by rw [Int.toNat_natCast] at h1; exact h1) h2 h3)
  · obtain ⟨y, _, rfl⟩ := List.mem_map.1 hq
    rfl
  · refine ⟨hL, ?_⟩
    rw [List.take_zero, List.nil_append, List.drop_eq_nil_of_le (by omega), List.append_nil]
/-- A field of an element written. -/
theorem hx_putf {n : Nat} {w0 : World} (base : Nat) (hN : o.dst = none) (hgd : o.guard = none) (t : TypeId) (p x : Operand) (ho : o.op = .store t p x) (e : TypeId) {g cap off : Nat} (j f : Nat) (xs : List (List Int)) (v : Int) (ok : Nat → Prop)
    (haddr : a.eval p = .pointer (some ⟨g, off, none⟩)) (hoff : off = j * n + f) (hx : a.eval x = .int .i64 v) (ht : (P.info? t).map (·.size) = some 1) (hf : f < n)
    (HO : (wide n).R e w base ok (.slice (some ⟨g, 0, none⟩) xs.length cap) xs) (hj : j < xs.length) (HB : Below base w0 w)
    (h : ∀ w1, (wide n).R e w1 base ok (.slice (some ⟨g, 0, none⟩) xs.length cap) (xs.set j ((xs.getD j []).set f v)) → Below base w0 w1 → w.grownBy w1 (some g) → wpList P ops Q rest a w1) : wpList P ops Q (o :: rest) a w := by
  obtain ⟨c, hcl, hM, hcc, _⟩ := Kd.R_elem HO [] (j : Int) (by omega) (by omega)
  rw [Int.toNat_natCast] at hM
  have hcl' : c.length = n := hcl
  refine Kd.R_store (wide n) (w0 := w0) base hN hgd t p x ho e (j : Int) f xs ((xs.getD j []).set f v) (.int .i64 v) [.int .i64 v] c ok (fun k => ok k ∧ k ≠ g) haddr (by rw [hoff, Int.toNat_natCast]; rfl) hx rfl ht (fun q hq => ?_) HO (by omega) (by omega) hcl hcc (show f + 1 ≤ n by omega) ?_ (fun k hk => hk) HB (fun w1 h1 h2 h3 => h w1 (by rw [Int.toNat_natCast] at h1; exact h1) h2 h3)
  · rw [List.mem_singleton.1 hq]
    rfl
  · refine ⟨by rw [List.length_set]; exact hM.1, ?_⟩
    rw [hM.2, List.set_eq_take_append_cons_drop, if_pos (by rw [hM.1]; exact hf)]
    simp [nums, List.map_take, List.map_drop]
/-- A whole element read, in a region that draws. -/
theorem quiet_load_at {Qq : Act → Prop} (hgd : o.guard = none) (ty : TypeId) (x : Operand) (ho : o.op = .load ty x) (ad : Addr) (hx : a.eval x = .pointer (some ad)) {d : TypeDesc} (L : List Int) (n : Nat)
    (hu : P.underlying ty = some d) (hd : (match d with | .struct _ | .array _ _ => true | _ => false) = true) (hi : (P.info? ty).map (·.size) = some n) (hL : L.length = n)
    (hc : ∀ i, i < n → w.cell? (ad.add i) = some (.int .i64 (L.getD i 0)))
    (h : wpQuiet P ops (fun w' => ∃ m, w' = w.drewN m) Qq rest (a.put o.dst (.agg (nums .i64 L).toArray))) : wpQuiet P ops (fun w' => ∃ m, w' = w.drewN m) Qq (o :: rest) a := by
  refine wpQuiet_step (fun K hK => ?_)
  have hw : Region.wanted o (yielded ops a.tmps) = true := by simp [Region.wanted, hgd]
  rw [if_pos hw]
  refine ⟨.agg (nums .i64 L).toArray, ?_, hK _ h⟩
  rintro w' ⟨m, rfl⟩
  have hr := run_load_nums (P := P) (w.drewN m) ty ad L n d hu hd hi hL (fun i hi => hc i hi)
  unfold Oper.quietAt execOp
  simp only [ho, hx, Instr.loadAt, Instr.sureAddr, Sem.run_bind, Sem.run_pure, Result.andThen_ok, hr]
  exact ⟨rfl, rfl⟩
theorem wide_zero {n : Nat} (w : World) (base : Nat) (ok : Nat → Prop) : (wide n).M w base ok (List.replicate n 0) (nums .i64 (List.replicate n 0)) := ⟨by simp, rfl⟩
end
end Go.Proofs.YtkghgjehjchajaaW.PrintHx
