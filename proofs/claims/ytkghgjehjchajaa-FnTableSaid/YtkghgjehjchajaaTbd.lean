/- FnTable: the draws, existentially told. -/
import Derived.Test.YtkghgjehjchajaaPFnTablex10
import Derived.Test.YtkghgjehjchajaaPFnTablex9
import Derived.Test.YtkghgjehjchajaaPFnTablex8
import Derived.OrdersHeld
import Derived.Test.YtkghgjehjchajaaWTab3
namespace Go.Proofs.Ytkghgjehjchajaa.PFnTable
open Go.RowKit Go.Proofs.YtkghgjehjchajaaW.PrintWords Go.Proofs.YtkghgjehjchajaaW.PrintLast Go.Proofs.YtkghgjehjchajaaW.PrintMore
open Go.Proofs.YtkghgjehjchajaaW Go.Proofs.YtkghgjehjchajaaW.PrintHand Go.Proofs.YtkghgjehjchajaaW.PrintHx
attribute [local go_sem] max2_int min2_int max_two min_two max_three min_three max_four min_four
set_option linter.unusedVariables false
set_option linter.unusedSimpArgs false

namespace Drw
theorem w64 {x : Int} (h0 : -9223372036854775808 ≤ x) (h1 : x ≤ 9223372036854775807) : wrap64 x = x := by unfold wrap64; omega
theorem w64n {n : Nat} (h : n < 9223372036854775807) : wrap64 ((n : Int) + 1) = ((n + 1 : Nat) : Int) := by unfold wrap64; omega
theorem sucK {n k : Nat} (h : n < k) : ∃ m, k = m + 1 := ⟨k - 1, by omega⟩
theorem rdN (xs : List Int) (i : Nat) : rd xs (i : Int) = xs.getD i 0 := by simp [rd]
theorem rd_some {xs : List Int} {i : Nat} (h : i < xs.length) : rd xs (i : Int) = xs[i] := by rw [rdN, List.getD_eq_getElem?_getD, List.getElem?_eq_getElem h]; rfl

/-- a draw: a number below n, the source goes on -/
theorem src_N (b : List Int) (hb : b.length ≤ 1048576) (i x n : Int) (hi : 0 ≤ i ∧ i ≤ b.length) (hn : 1 < n) (hn2 : n ≤ 4294967296) :
    ∃ v i' x', spec_l01Src_N.f b i x n = some (v, i', x') ∧ (0 ≤ v ∧ v < n) ∧ (0 ≤ i' ∧ i' ≤ b.length) := by
  have hn3 : IntKind.u64.wrap n = n := by rw [IntKind.wrap_u64]; omega
  have key : ∀ (y : Int) (i' : Int), (0 ≤ i' ∧ i' ≤ b.length) → ∃ v i'' x', (if n ≤ 1 then (some (0, i', IntKind.u64.wrap ((IntKind.u64.wrap (y * 6364136223846793005)) + 1442695040888963407))) else (if (IntKind.u64.wrap n) = 0 then (none) else (some (wrap64 (Int.tmod ((IntKind.u64.wrap ((IntKind.u64.wrap (y * 6364136223846793005)) + 1442695040888963407)) / 8589934592) (IntKind.u64.wrap n)), i', IntKind.u64.wrap ((IntKind.u64.wrap (y * 6364136223846793005)) + 1442695040888963407))))) = some (v, i'', x') ∧ (0 ≤ v ∧ v < n) ∧ (0 ≤ i'' ∧ i'' ≤ b.length) := by
    intro y i' hi'
    rw [if_neg (by omega), hn3, if_neg (by omega)]
    generalize hz : IntKind.u64.wrap (IntKind.u64.wrap (y * 6364136223846793005) + 1442695040888963407) = z
    have hz0 : 0 ≤ z := by rw [← hz, IntKind.wrap_u64]; omega
    have e : Int.tmod (z / 8589934592) n = (z / 8589934592) % n := Int.tmod_eq_emod_of_nonneg (by omega)
    have h1 := Int.emod_nonneg (z / 8589934592) (show n ≠ 0 by omega)
    have h2 := Int.emod_lt_of_pos (z / 8589934592) (show 0 < n by omega)
    rw [e, w64 (by omega) (by omega)]
    exact ⟨_, _, _, rfl, ⟨h1, h2⟩, hi'⟩
  unfold spec_l01Src_N.f
  by_cases h : i < (b.length : Int)
  · rw [if_pos h, if_pos hi.1, w64 (x := i + 1) (by omega) (by omega)]
    exact key _ _ (by omega)
  · rw [if_neg h]
    exact key _ _ hi

theorem src_N1 (b : List Int) (hb : b.length ≤ 1048576) (i x n : Int) (hi : 0 ≤ i ∧ i ≤ b.length) (hn : 1 ≤ n) (hn2 : n ≤ 4294967296) :
    ∃ v i' x', spec_l01Src_N.f b i x n = some (v, i', x') ∧ (0 ≤ v ∧ v < n) ∧ (0 ≤ i' ∧ i' ≤ b.length) := by
  by_cases h1 : n = 1
  · subst h1
    unfold spec_l01Src_N.f
    by_cases h : i < (b.length : Int)
    · rw [if_pos h, if_pos hi.1, if_pos (by omega), w64 (x := i + 1) (by omega) (by omega)]
      exact ⟨0, _, _, rfl, ⟨by omega, by omega⟩, by omega, by omega⟩
    · rw [if_neg h, if_pos (by omega)]
      exact ⟨0, _, _, rfl, ⟨by omega, by omega⟩, hi⟩
  · exact src_N b hb i x n hi (by omega) hn2
end Drw
theorem kept_keep {w w' : World} {g : Nat} (h : KeepBut w w' g none) : Kept w w' (fun k => k = g) := ⟨h.1, fun i hi hn => h.2 i hi hn (by simp)⟩
/-- The draws go on: block g is the source, the world w0 lies below, all but g is kept since w. -/
structure Dr (b : List Int) (g : Nat) (w0 w w' : World) : Prop where
  st : ∃ i x, IsS93 w0 w' g b i x ∧ 0 ≤ i ∧ i ≤ (b.length : Int)
  bl : Below w0.heap.size w0 w'
  kp : KeepBut w w' g none
section
variable {b : List Int} {g s0 : Nat} {w0 w w1 w2 : World}
theorem Dr.below (h : Dr b g w0 w w1) (hb : Below w1.heap.size w1 w2) : Dr b g w0 w w2 := by
  obtain ⟨i, x, h1, h2⟩ := h.st
  exact ⟨⟨i, x, h1.below hb, h2⟩, below_then h.bl h.bl.size hb, h.kp.trans (KeepBut.of_below hb g none) (.inl rfl)⟩
theorem Dr.draw (h : Dr b g w0 w w1) (k : Dr b g w0 w1 w2) : Dr b g w0 w w2 := ⟨k.st, k.bl, h.kp.trans k.kp (.inl rfl)⟩
theorem Dr.again (h : Dr b g w0 w w1) : Dr b g w0 w1 w1 := ⟨h.st, h.bl, KeepBut.refl _ _ _⟩
theorem Dr.ge (h : Dr b g w0 w w1) : w0.heap.size ≤ g := by obtain ⟨i, x, h1, h2⟩ := h.st; exact h1.ge
theorem Dr.lt (h : Dr b g w0 w w1) : g < w1.heap.size := by obtain ⟨i, x, h1, h2⟩ := h.st; exact h1.lt
theorem Dr.size_ (h : Dr b g w0 w w1) (h0 : Aside0 (w.heap.size = s0)) : ∃ s, Aside0 (w1.heap.size = s) ∧ s0 ≤ s := ⟨_, ⟨rfl⟩, by rw [← h0.out]; exact h.kp.1⟩
theorem Dr.touch (h : Dr b g w0 w w1) (h0 : Aside0 (w.heap.size = s0)) {s : Nat} (hg : g < s0) (hs : s0 ≤ s) (ht : PrintHand.Touch s w1 w2) : Dr b g w0 w w2 := by
  have hge := h.ge
  obtain ⟨i, x, h1, h2⟩ := h.st
  have e := h0.out
  exact ⟨⟨i, x, h1.kept (kept_touch ht) (fun (e : g = s) => by omega), h2⟩, ht.below h.bl (by omega), ⟨by rw [ht.size]; exact h.kp.1, fun i hi hn hr => (ht.other i (by omega)).trans (h.kp.2 i hi hn hr)⟩⟩
theorem Dr.grown {row : Option Nat} (h : Dr b g w0 w w1) (h0 : Aside0 (w.heap.size = s0)) (hg : g < s0) (hb : Below w0.heap.size w0 w2) (hw : w1.grownBy w2 row) (hr : ∀ k, row = some k → s0 ≤ k) : Dr b g w0 w w2 := by
  obtain ⟨i, x, h1, h2⟩ := h.st
  refine ⟨⟨i, x, h1.grown hw (fun e => by have := hr g e.symm; omega), h2⟩, hb, h.kp.trans (KeepBut.of_grown hw g) ?_⟩
  cases row with
  | none => exact .inl rfl
  | some k => exact .inr ⟨k, rfl, by rw [h0.out]; exact hr k rfl⟩
/-- A block of numbers. -/
def Blk (n t s : Nat) (w : World) : Prop := ∃ L : List Int, L.length = n ∧ w.heap[s]? = some (.cells (nums .i64 L).toArray t (0, 0))
variable {n t s : Nat}
theorem Blk.of {L : List Int} (h : L.length = n) (hg : w.heap[s]? = some (.cells (nums .i64 L).toArray t (0, 0))) : Blk n t s w := ⟨L, h, hg⟩
theorem Blk.lt (h : Blk n t s w) : s < w.heap.size := by obtain ⟨L, _, h⟩ := h; exact blk_lt h
theorem Blk.kept {S : Nat → Prop} (h : Blk n t s w1) (k : Kept w1 w2 S) (hs : ¬ S s) : Blk n t s w2 := by
  obtain ⟨L, h1, h2⟩ := h
  exact ⟨L, h1, blk_kept h2 k hs⟩
theorem Blk.below (h : Blk n t s w1) (hb : Below w1.heap.size w1 w2) : Blk n t s w2 := h.kept (kept_below hb) (fun h => h)
theorem Blk.touch {s' : Nat} (h : Blk n t s w1) (ht : PrintHand.Touch s' w1 w2) (hs : s ≠ s') : Blk n t s w2 := h.kept (kept_touch ht) hs
theorem Blk.draw (h : Blk n t s w1) (k : Dr b g w0 w1 w2) (hs : g < s) : Blk n t s w2 := h.kept (kept_keep k.kp) (fun (e : s = g) => by omega)
variable {P : Program} {ops : Array Oper} {rest : List Oper} {o : Oper} {a : Act} {Q : Exit → Act → World → Prop}
theorem ex_storef (hgd : o.guard = none) (hN : o.dst = none) (ty : TypeId) (p x : Operand) (ho : o.op = .store ty p x) (s off : Nat) (hp : a.eval p = .pointer (some ⟨s, off, none⟩)) (v : Int) (hx : a.eval x = .int .i64 v)
    (ht : (P.info? ty).map (·.size) = some 1) (hb : Blk n t s w) (hn : off < n) (h : ∀ w', PrintHand.Touch s w w' → Blk n t s w' → wpList P ops Q rest a w') : wpList P ops Q (o :: rest) a w := by
  obtain ⟨L, h1, h2⟩ := hb
  refine hx_storef hgd hN ty p x ho s off hp v hx ht h2 (by omega) ?_
  intro w' L' t_ _ hl hg
  exact h w' t_ ⟨L', by rw [hl.out, h1], hg⟩
theorem ex_storep (hgd : o.guard = none) (hN : o.dst = none) (ty : TypeId) (p x : Operand) (ho : o.op = .store ty p x) (s off m : Nat) (hp : a.eval p = .pointer (some ⟨s, off, none⟩)) (M : List Int) (hx : a.eval x = .agg (nums .i64 M).toArray)
    (ht : (P.info? ty).map (·.size) = some m) (hM : M.length = m) (hb : Blk n t s w) (hn : off + m ≤ n) (h : ∀ w', PrintHand.Touch s w w' → Blk n t s w' → wpList P ops Q rest a w') : wpList P ops Q (o :: rest) a w := by
  obtain ⟨L, h1, h2⟩ := hb
  refine hx_storep hgd hN ty p x ho s off m hp M hx ht hM h2 (by omega) ?_
  intro w' L' t_ _ hl hg
  exact h w' t_ ⟨L', by rw [hl.out, h1], hg⟩
theorem ex_store (hgd : o.guard = none) (hN : o.dst = none) (ty : TypeId) (p x : Operand) (ho : o.op = .store ty p x) (s : Nat) (hp : a.eval p = .pointer (some ⟨s, 0, none⟩)) (M : List Int) (hx : a.eval x = .agg (nums .i64 M).toArray)
    (ht : (P.info? ty).map (·.size) = some n) (hM : M.length = n) (hb : Blk n t s w) (h : ∀ w', PrintHand.Touch s w w' → Blk n t s w' → wpList P ops Q rest a w') : wpList P ops Q (o :: rest) a w := by
  obtain ⟨L, h1, h2⟩ := hb
  refine hx_store hgd hN ty p x ho s n hp (nums .i64 M).toArray hx ht (nums_size _ _ _ hM) (nums_one _ _) h2 (nums_size _ _ _ h1) ?_
  intro w' t_ hg
  exact h w' t_ ⟨M, hM, hg⟩
theorem ex_loadf (hgd : o.guard = none) (ty : TypeId) (x : Operand) (ho : o.op = .load ty x) (s off : Nat) (hx : a.eval x = .pointer (some ⟨s, off, none⟩)) {d : TypeDesc}
    (hu : P.underlying ty = some d) (hd : (match d with | .struct _ | .array _ _ => true | _ => false) = false) (hb : Blk n t s w) (hn : off < n)
    (h : ∀ v : Int, wpList P ops Q rest (a.put o.dst (.int .i64 v)) w) : wpList P ops Q (o :: rest) a w := by
  obtain ⟨L, h1, h2⟩ := hb
  exact hx_loadf hgd ty x ho s off hx hu hd h2 (by omega) (h _)
theorem ex_loadp (hgd : o.guard = none) (ty : TypeId) (x : Operand) (ho : o.op = .load ty x) (s off m : Nat) (hx : a.eval x = .pointer (some ⟨s, off, none⟩)) {d : TypeDesc}
    (hu : P.underlying ty = some d) (hd : (match d with | .struct _ | .array _ _ => true | _ => false) = true) (hi : (P.info? ty).map (·.size) = some m) (hb : Blk n t s w) (hn : off + m ≤ n)
    (h : ∀ L : List Int, L.length = m → wpList P ops Q rest (a.put o.dst (.agg (nums .i64 L).toArray)) w) : wpList P ops Q (o :: rest) a w := by
  obtain ⟨L, h1, h2⟩ := hb
  exact hx_loadp hgd ty x ho s off m hx hu hd hi h2 (by omega) (h _ (part_len h1 hn))
theorem ex_load (hgd : o.guard = none) (ty : TypeId) (x : Operand) (ho : o.op = .load ty x) (s : Nat) (hx : a.eval x = .pointer (some ⟨s, 0, none⟩)) {d : TypeDesc}
    (hu : P.underlying ty = some d) (hd : (match d with | .struct _ | .array _ _ => true | _ => false) = true) (hi : (P.info? ty).map (·.size) = some n) (hb : Blk n t s w)
    (h : ∀ L : List Int, L.length = n → wpList P ops Q rest (a.put o.dst (.agg (nums .i64 L).toArray)) w) : wpList P ops Q (o :: rest) a w := by
  obtain ⟨L, h1, h2⟩ := hb
  exact hx_load hgd ty x ho s n hx hu hd hi h2 (nums_size _ _ _ h1) (h L h1)
theorem ex_build (hgd : o.guard = none) (t : TypeId) (ps : Array (Nat × Operand)) (ho : o.op = .build t ps) (vs : Array (Nat × Value)) (hv : (ps.map fun (i, x) => (i, a.eval x)) = vs) (v : Value) (hr : ∀ w, (Instr.build t vs).run P w = .ok v w)
  (h : wpList P ops Q rest (a.put o.dst v) w) : wpList P ops Q (o :: rest) a w := by
  refine wpList_plain hgd fun K hK => ?_
  unfold Oper.wp execOp
  simp only [ho, hv, Sem.run_bind, hr, Result.andThen_ok, Sem.run_pure]
  exact hK _ _ h
end
section
variable {b : List Int} {g : Nat} {w0 w' w : World} (hb : b.length ≤ 1048576)
include hb
theorem N_any {n : Int} (h1 : 1 ≤ n) (h2 : n ≤ 4294967296) (h : Dr b g w0 w' w) : Calls Try.prog 63 #[.pointer (some ⟨g, 0, none⟩), .int .i64 n] w fun e w2 => ∃ v : Int, e = .returned (.int .i64 v) ∧ (0 ≤ v ∧ v < n) ∧ Dr b g w0 w w2 := by
  obtain ⟨i, x, hI, hi⟩ := h.st
  obtain ⟨v, i', x', e, hv, hi'⟩ := Drw.src_N1 b hb i x n hi h1 h2
  refine (spec_l01Src_N.calls g b i x n v i' x' w0 w hI h.bl e).mono ?_
  rintro e_ w2 ⟨rfl, hI2, hB2, hK2⟩
  exact ⟨v, rfl, hv, ⟨i', x', hI2, hi'⟩, hB2, hK2⟩
theorem One_any {n : Int} (h1 : 1 ≤ n) (h2 : n ≤ 4294967296) (h : Dr b g w0 w' w) : Calls Try.prog 67 #[.pointer (some ⟨g, 0, none⟩), .int .i64 n] w fun e w2 => ∃ v : Bool, e = .returned (.bool v) ∧ Dr b g w0 w w2 := by
  obtain ⟨i, x, hI, hi⟩ := h.st
  obtain ⟨v, i', x', e, hv, hi'⟩ := Drw.src_N1 b hb i x n hi h1 h2
  refine (spec_l01Src_One.calls g b i x n (v == 0) i' x' w0 w hI h.bl (by rw [spec_l01Src_One.f, e]; rfl)).mono ?_
  rintro e_ w2 ⟨rfl, hI2, hB2, hK2⟩
  exact ⟨_, rfl, ⟨i', x', hI2, hi'⟩, hB2, hK2⟩
theorem Wild_any (h : Dr b g w0 w' w) : Calls Try.prog 80 #[.pointer (some ⟨g, 0, none⟩)] w fun e w2 => ∃ v : Int, e = .returned (.int .i64 v) ∧ Dr b g w0 w w2 := by
  obtain ⟨i, x, hI, hi⟩ := h.st
  have key : ∃ v i' x', spec_l01Src_Wild.f b i x = some (v, i', x') ∧ (0 ≤ i' ∧ i' ≤ (b.length : Int)) := by
    unfold spec_l01Src_Wild.f
    obtain ⟨v, i1, x1, e, hv, hi1⟩ := Drw.src_N1 b hb i x 6 hi (by omega) (by omega)
    rw [e, Option.bind_some]
    dsimp only
    by_cases c0 : v = 0
    · rw [if_pos c0]; exact ⟨_, _, _, rfl, hi1⟩
    by_cases c1 : v = 1
    · rw [if_neg c0, if_pos c1]; exact ⟨_, _, _, rfl, hi1⟩
    by_cases c2 : v = 2
    · rw [if_neg c0, if_neg c1, if_pos c2]; exact ⟨_, _, _, rfl, hi1⟩
    by_cases c3 : v = 3
    · obtain ⟨v', i2, x2, e2, hv2, hi2⟩ := Drw.src_N1 b hb i1 x1 100000 hi1 (by omega) (by omega)
      rw [if_neg c0, if_neg c1, if_neg c2, if_pos c3, e2]; exact ⟨_, _, _, rfl, hi2⟩
    by_cases c4 : v = 4
    · obtain ⟨v', i2, x2, e2, hv2, hi2⟩ := Drw.src_N1 b hb i1 x1 1000 hi1 (by omega) (by omega)
      rw [if_neg c0, if_neg c1, if_neg c2, if_neg c3, if_pos c4, e2]; exact ⟨_, _, _, rfl, hi2⟩
    · obtain ⟨v', i2, x2, e2, hv2, hi2⟩ := Drw.src_N1 b hb i1 x1 20 hi1 (by omega) (by omega)
      rw [if_neg c0, if_neg c1, if_neg c2, if_neg c3, if_neg c4, e2]; exact ⟨_, _, _, rfl, hi2⟩
  obtain ⟨v, i', x', e, hi'⟩ := key
  refine (spec_l01Src_Wild.calls g b i x v i' x' w0 w hI h.bl e).mono ?_
  rintro e_ w2 ⟨rfl, hI2, hB2, hK2⟩
  exact ⟨v, rfl, ⟨i', x', hI2, hi'⟩, hB2, hK2⟩
theorem Ptr_any (h : Dr b g w0 w' w) : Calls Try.prog 85 #[.pointer (some ⟨g, 0, none⟩), .int .i64 2048] w fun e w2 => ∃ v : Int, e = .returned (.int .i64 v) ∧ Dr b g w0 w w2 := by
  obtain ⟨i, x, hI, hi⟩ := h.st
  have key : ∃ v i' x', spec_l02DrawPointer.f b i x 2048 = some (v, i', x') ∧ (0 ≤ i' ∧ i' ≤ (b.length : Int)) := by
    unfold spec_l02DrawPointer.f spec_l01Src_One.f
    obtain ⟨v, i1, x1, e, hv, hi1⟩ := Drw.src_N1 b hb i x 2 hi (by omega) (by omega)
    rw [e, Option.bind_some, Option.bind_some]
    dsimp only
    by_cases c : (v == 0) = true
    · rw [if_pos c]; exact ⟨_, _, _, rfl, hi1⟩
    · have hw : wrap64 (2048 - 2) = 2046 := by (unfold wrap64; omega)
      obtain ⟨v', i2, x2, e2, hv2, hi2⟩ := Drw.src_N1 b hb i1 x1 2046 hi1 (by omega) (by omega)
      rw [if_neg c, hw, e2]; exact ⟨_, _, _, rfl, hi2⟩
  obtain ⟨v, i', x', e, hi'⟩ := key
  refine (spec_l02DrawPointer.calls g b i x 2048 v i' x' w0 w hI h.bl e).mono ?_
  rintro e_ w2 ⟨rfl, hI2, hB2, hK2⟩
  exact ⟨v, rfl, ⟨i', x', hI2, hi'⟩, hB2, hK2⟩
theorem Size_any (h : Dr b g w0 w' w) : Calls Try.prog 83 #[.pointer (some ⟨g, 0, none⟩)] w fun e w2 => ∃ v : Int, e = .returned (.int .i64 v) ∧ Dr b g w0 w w2 := by
  obtain ⟨i, x, hI, hi⟩ := h.st
  have key : ∃ v i' x', spec_l02DrawSize.f b i x = some (v, i', x') ∧ (0 ≤ i' ∧ i' ≤ (b.length : Int)) := by
    unfold spec_l02DrawSize.f
    obtain ⟨v, i1, x1, e, hv, hi1⟩ := Drw.src_N1 b hb i x 5 hi (by omega) (by omega)
    rw [e, Option.bind_some]
    dsimp only
    by_cases c0 : v = 0
    · obtain ⟨v', i2, x2, e2, hv2, hi2⟩ := Drw.src_N1 b hb i1 x1 262145 hi1 (by omega) (by omega)
      rw [if_pos c0, e2]; exact ⟨_, _, _, rfl, hi2⟩
    by_cases c1 : v = 1
    · obtain ⟨v', i2, x2, e2, hv2, hi2⟩ := Drw.src_N1 b hb i1 x1 8 hi1 (by omega) (by omega)
      rw [if_neg c0, if_pos c1, Option.bind_some, e2, Option.bind_some, if_pos hv2.1, if_pos (by simp; omega)]; exact ⟨_, _, _, rfl, hi2⟩
    · obtain ⟨v', i2, x2, e2, hv2, hi2⟩ := Drw.src_N1 b hb i1 x1 9000 hi1 (by omega) (by omega)
      rw [if_neg c0, if_neg c1, e2]; exact ⟨_, _, _, rfl, hi2⟩
  obtain ⟨v, i', x', e, hi'⟩ := key
  refine (spec_l02DrawSize.calls g b i x v i' x' w0 w hI h.bl e).mono ?_
  rintro e_ w2 ⟨rfl, hI2, hB2, hK2⟩
  exact ⟨v, rfl, ⟨i', x', hI2, hi'⟩, hB2, hK2⟩
end
set_option maxHeartbeats 8000000 in
set_option maxRecDepth 100000 in
theorem Root_any {b : List Int} {g : Nat} {w0 w' w : World} (hb : b.length ≤ 1048576) (size : Int) (h : Dr b g w0 w' w) : Calls Try.prog 82 #[.pointer (some ⟨g, 0, none⟩), .int .i64 size, .int .i64 2048] w fun e w2 => ∃ L : List Int, e = .returned (.agg (nums .i64 L).toArray) ∧ L.length = 15 ∧ Dr b g w0 w w2 := by
  have D := Aside0.mk h.again
  obtain ⟨s0, S0⟩ : ∃ s0, Aside0 (w.heap.size = s0) := ⟨_, ⟨rfl⟩⟩
  have hg0 : g < s0 := by (have q_ := h.lt; rw [S0.out] at q_; exact q_)
  clear h
  have Z28 : ∀ w, (zeroValue 28).run Try.prog w = .ok (.agg (nums .i64 (List.replicate 15 0)).toArray) w := fun _ => by kernel_rfl
  have Z42 : ∀ w, (zeroValue 42).run Try.prog w = .ok (.agg (nums .i64 (List.replicate 24 0)).toArray) w := fun _ => by kernel_rfl
  have BU : ∀ w, (Instr.build 28 #[(0, .int .i64 size)]).run Try.prog w = .ok (.agg (nums .i64 (size :: List.replicate 14 0)).toArray) w := fun w_ => run_build w_ 28 _ _ (by kernel_rfl)
  go_enter Try.func82, Try.ntmps82
  go_wp2_with (first | ((with_reducible refine gate_dst (N := 6) rfl ?_); obtain ⟨sR, Sz_, hR⟩ := D.out.size_ S0; refine hx_alloc rfl 6 rfl 28 rfl Sz_ (.agg (nums .i64 (List.replicate 15 0)).toArray) (nums .i64 (List.replicate 15 0)).toArray Z28 rfl ?_; intro wn sn Ln_ Sn_ bn_ gn_; clear Ln_ Sn_ Sz_; have X_ := Aside0.mk (D.out.below bn_); clear D; have D := X_; clear X_; have BR : Aside0 (Blk 15 28 sR wn) := ⟨Blk.of List.length_replicate gn_⟩; clear bn_ gn_) | ((with_reducible refine gate_dst (N := 11) rfl ?_); refine ex_build rfl 28 #[(0, .tmp 10)] rfl #[(0, .int .i64 size)] (by simp only [List.map_toArray, List.map_cons, List.map_nil]; rfl) (.agg (nums .i64 (size :: List.replicate 14 0)).toArray) BU ?_) | ((with_reducible refine gate_dst (N := 7) rfl ?_); obtain ⟨sA, Sz_, hA⟩ := D.out.size_ S0; have hRA : sR < sA := (by have q_ := BR.out.lt; rw [Sz_.out] at q_; exact q_); refine hx_alloc rfl 7 rfl 28 rfl Sz_ (.agg (nums .i64 (List.replicate 15 0)).toArray) (nums .i64 (List.replicate 15 0)).toArray Z28 rfl ?_; intro wn sn Ln_ Sn_ bn_ gn_; clear Ln_ Sn_ Sz_; have X_ := Aside0.mk (BR.out.below bn_); clear BR; have BR := X_; clear X_; have X_ := Aside0.mk (D.out.below bn_); clear D; have D := X_; clear X_; have BA : Aside0 (Blk 15 28 sA wn) := ⟨Blk.of List.length_replicate gn_⟩; clear bn_ gn_) | ((with_reducible refine gate_store (t := 28) (p := 7) (v := .tmp 11) rfl ?_); refine ex_store rfl rfl 28 (.tmp 7) (.tmp 11) rfl sA rfl (size :: List.replicate 14 0) rfl (by kernel_rfl) (by simp) BA.out ?_; clear BA; intro wn tn_ gn_; have X_ := Aside0.mk (BR.out.touch tn_ (by omega)); clear BR; have BR := X_; clear X_; have X_ := Aside0.mk (D.out.touch S0 hg0 hA tn_); clear D; have D := X_; clear X_; have BA := Aside0.mk gn_; clear tn_ gn_) | ((with_reducible refine gate_dst (N := 13) rfl ?_); refine goesL_ (some 13) rfl rfl Try.func84 (by kernel_rfl) rfl #[.int .i64 size] rfl (by (try simp only [List.map_toArray, List.map_cons, List.map_nil]); first | done | rfl) ?_; refine (spec_l03Count.calls size _ _ rfl).mono ?_; rintro e_ wn ⟨rfl, d0_⟩; refine ⟨_, rfl, ?_⟩; have bn_ := kept_drawn d0_; clear d0_; have X_ := Aside0.mk (BR.out.below bn_); clear BR; have BR := X_; clear X_; have X_ := Aside0.mk (BA.out.below bn_); clear BA; have BA := X_; clear X_; have X_ := Aside0.mk (D.out.below bn_); clear D; have D := X_; clear X_; clear bn_))
  (try simp only [Act.put, List.setIfInBounds_toArray, List.set_cons_succ, List.set_cons_zero])
  go_loopg [9, 14] 12 (fun kq v9 v14 wr => ∃ i : Nat, v14 = .int .i64 (i : Int) ∧ Aside0 (kq + i = 12) ∧ Aside0 (Dr b g w0 w wr) ∧ Aside0 (Blk 15 28 sR wr) ∧ Aside0 (Blk 15 28 sA wr))
  case atStart => exact ⟨0, rfl, ⟨by omega⟩, D, BR, BA⟩
  case round =>
    clear D BR BA
    obtain ⟨i, rfl, hki, D, BR, BA⟩ := hrel
    by_cases ci : i < 12
    case pos =>
      have ci0 : decide ((i : Int) < 12) = true := decide_eq_true (by omega)
      have ci1 : decide (i < 12) = true := decide_eq_true ci
      have ci2 : ((i : Int) < 12) = True := eq_true (by omega)
      have ci3 : (0 ≤ (i : Int)) = True := eq_true (by omega)
      have CI := Aside0.mk ci
      clear ci
      have hw_ : wrap64 ((i : Int) + 1) = ((i + 1 : Nat) : Int) := by (have := CI.out; unfold wrap64; omega)
      by_cases cb : (i : Int) < (wrap64 (Int.tdiv (wrap64 ((wrap64 (size + 512)) - 1)) 512))
      case pos =>
        have cb0 : decide ((i : Int) < (wrap64 (Int.tdiv (wrap64 ((wrap64 (size + 512)) - 1)) 512))) = true := decide_eq_true cb
        clear cb
        go_wp2_with (first | ((with_reducible refine gate_dst (N := 23) rfl ?_); refine goesL_ (some 23) rfl rfl Try.func85 (by kernel_rfl) rfl #[.pointer (some ⟨g, 0, none⟩), .int .i64 2048] rfl (by (try simp only [List.map_toArray, List.map_cons, List.map_nil]); first | done | rfl) ?_; refine (Ptr_any hb D.out).mono ?_; rintro e_ wn ⟨v23, rfl, d_⟩; refine ⟨_, rfl, ?_⟩; have X_ := Aside0.mk (BR.out.draw d_ (by omega)); clear BR; have BR := X_; clear X_; have X_ := Aside0.mk (BA.out.draw d_ (by omega)); clear BA; have BA := X_; clear X_; have X_ := Aside0.mk (D.out.draw d_); clear D; have D := X_; clear X_; clear d_) | ((with_reducible refine gate_store (t := 3) (p := 25) (v := .tmp 23) rfl ?_); refine ex_storef rfl rfl 3 (.tmp 25) (.tmp 23) rfl sA (1 + i) rfl _ rfl (by kernel_rfl) BA.out (by have := CI.out; omega) ?_; clear BA; intro wn tn_ gn_; have X_ := Aside0.mk (BR.out.touch tn_ (by omega)); clear BR; have BR := X_; clear X_; have X_ := Aside0.mk (D.out.touch S0 hg0 hA tn_); clear D; have D := X_; clear X_; have BA := Aside0.mk gn_; clear tn_ gn_))
        cases gk with
        | zero => exact absurd CI.out (by have := hki.out; omega)
        | succ gk =>
          go_roundg gk
          case measure => omega
          case rel => exact ⟨i + 1, by rw [hw_], ⟨by have := hki.out; omega⟩, D, BR, BA⟩
      case neg =>
        have cb0 : decide ((i : Int) < (wrap64 (Int.tdiv (wrap64 ((wrap64 (size + 512)) - 1)) 512))) = false := decide_eq_false cb
        clear cb
        go_wp2_with (first | ((with_reducible refine gate_dst (N := 23) rfl ?_); refine goesL_ (some 23) rfl rfl Try.func85 (by kernel_rfl) rfl #[.pointer (some ⟨g, 0, none⟩), .int .i64 2048] rfl (by (try simp only [List.map_toArray, List.map_cons, List.map_nil]); first | done | rfl) ?_; refine (Ptr_any hb D.out).mono ?_; rintro e_ wn ⟨v23, rfl, d_⟩; refine ⟨_, rfl, ?_⟩; have X_ := Aside0.mk (BR.out.draw d_ (by omega)); clear BR; have BR := X_; clear X_; have X_ := Aside0.mk (BA.out.draw d_ (by omega)); clear BA; have BA := X_; clear X_; have X_ := Aside0.mk (D.out.draw d_); clear D; have D := X_; clear X_; clear d_) | ((with_reducible refine gate_store (t := 3) (p := 25) (v := .tmp 23) rfl ?_); refine ex_storef rfl rfl 3 (.tmp 25) (.tmp 23) rfl sA (1 + i) rfl _ rfl (by kernel_rfl) BA.out (by have := CI.out; omega) ?_; clear BA; intro wn tn_ gn_; have X_ := Aside0.mk (BR.out.touch tn_ (by omega)); clear BR; have BR := X_; clear X_; have X_ := Aside0.mk (D.out.touch S0 hg0 hA tn_); clear D; have D := X_; clear X_; have BA := Aside0.mk gn_; clear tn_ gn_))
        cases gk with
        | zero => exact absurd CI.out (by have := hki.out; omega)
        | succ gk =>
          go_roundg gk
          case measure => omega
          case rel => exact ⟨i + 1, by rw [hw_], ⟨by have := hki.out; omega⟩, D, BR, BA⟩
    case neg =>
      have ci0 : decide ((i : Int) < 12) = false := decide_eq_false (by omega)
      have ci1 : decide (i < 12) = false := decide_eq_false ci
      clear ci hki
      rcases Bool.eq_false_or_eq_true (decide (12 < (wrap64 (Int.tdiv (wrap64 ((wrap64 (size + 512)) - 1)) 512)))) with c12 | c12 <;> rcases Bool.eq_false_or_eq_true (decide (140 < (wrap64 (Int.tdiv (wrap64 ((wrap64 (size + 512)) - 1)) 512)))) with c140 | c140
      all_goals go_wp2_with (first | ((with_reducible refine gate_dst (N := 31) rfl ?_); refine goesL_ (some 31) rfl rfl Try.func85 (by kernel_rfl) rfl #[.pointer (some ⟨g, 0, none⟩), .int .i64 2048] rfl (by (try simp only [List.map_toArray, List.map_cons, List.map_nil]); first | done | rfl) ?_; refine (Ptr_any hb D.out).mono ?_; rintro e_ wn ⟨v31, rfl, d_⟩; refine ⟨_, rfl, ?_⟩; have X_ := Aside0.mk (BR.out.draw d_ (by omega)); clear BR; have BR := X_; clear X_; have X_ := Aside0.mk (BA.out.draw d_ (by omega)); clear BA; have BA := X_; clear X_; have X_ := Aside0.mk (D.out.draw d_); clear D; have D := X_; clear X_; clear d_) | ((with_reducible refine gate_store (t := 3) (p := 32) (v := .tmp 31) rfl ?_); refine ex_storef rfl rfl 3 (.tmp 32) (.tmp 31) rfl sA (13) rfl _ rfl (by kernel_rfl) BA.out (by decide) ?_; clear BA; intro wn tn_ gn_; have X_ := Aside0.mk (BR.out.touch tn_ (by omega)); clear BR; have BR := X_; clear X_; have X_ := Aside0.mk (D.out.touch S0 hg0 hA tn_); clear D; have D := X_; clear X_; have BA := Aside0.mk gn_; clear tn_ gn_) | ((with_reducible refine gate_dst (N := 37) rfl ?_); refine goesL_ (some 37) rfl rfl Try.func85 (by kernel_rfl) rfl #[.pointer (some ⟨g, 0, none⟩), .int .i64 2048] rfl (by (try simp only [List.map_toArray, List.map_cons, List.map_nil]); first | done | rfl) ?_; refine (Ptr_any hb D.out).mono ?_; rintro e_ wn ⟨v37, rfl, d_⟩; refine ⟨_, rfl, ?_⟩; have X_ := Aside0.mk (BR.out.draw d_ (by omega)); clear BR; have BR := X_; clear X_; have X_ := Aside0.mk (BA.out.draw d_ (by omega)); clear BA; have BA := X_; clear X_; have X_ := Aside0.mk (D.out.draw d_); clear D; have D := X_; clear X_; clear d_) | ((with_reducible refine gate_store (t := 3) (p := 38) (v := .tmp 37) rfl ?_); refine ex_storef rfl rfl 3 (.tmp 38) (.tmp 37) rfl sA (14) rfl _ rfl (by kernel_rfl) BA.out (by decide) ?_; clear BA; intro wn tn_ gn_; have X_ := Aside0.mk (BR.out.touch tn_ (by omega)); clear BR; have BR := X_; clear X_; have X_ := Aside0.mk (D.out.touch S0 hg0 hA tn_); clear D; have D := X_; clear X_; have BA := Aside0.mk gn_; clear tn_ gn_) | ((with_reducible refine gate_dst (N := 39) rfl ?_); refine ex_load rfl 28 (.tmp 7) rfl sA rfl Try.underlying28 rfl (by kernel_rfl) BA.out ?_; intro LL nLL_; have NLL := Aside0.mk nLL_; clear nLL_) | ((with_reducible refine gate_store (t := 28) (p := 6) (v := .tmp 39) rfl ?_); refine ex_store rfl rfl 28 (.tmp 6) (.tmp 39) rfl sR rfl _ rfl (by kernel_rfl) NLL.out BR.out ?_; clear BR; intro wn tn_ gn_; have X_ := Aside0.mk (BA.out.touch tn_ (by omega)); clear BA; have BA := X_; clear X_; have X_ := Aside0.mk (D.out.touch S0 hg0 hR tn_); clear D; have D := X_; clear X_; have BR := Aside0.mk gn_; clear tn_ gn_))
      all_goals (obtain ⟨LR, nR, gR⟩ := BR.out; exact bodyPost_ret (results_cell_row rfl _ _ sR 28 (nums .i64 LR).toArray (0, 0) _ rfl gR Try.underlying28 rfl (by rw [nums_size _ _ _ nR]; kernel_rfl)) rfl ⟨LR, rfl, nR, D.out⟩)
set_option maxHeartbeats 8000000 in
set_option maxRecDepth 100000 in
theorem Inode_any {b : List Int} {g : Nat} {w0 w' w : World} (hb : b.length ≤ 1048576) (h : Dr b g w0 w' w) : Calls Try.prog 66 #[.pointer (some ⟨g, 0, none⟩)] w fun e w2 => ∃ L : List Int, e = .returned (.agg (nums .i64 L).toArray) ∧ L.length = 24 ∧ Dr b g w0 w w2 := by
  have D := Aside0.mk h.again
  obtain ⟨s0, S0⟩ : ∃ s0, Aside0 (w.heap.size = s0) := ⟨_, ⟨rfl⟩⟩
  have hg0 : g < s0 := by (have q_ := h.lt; rw [S0.out] at q_; exact q_)
  clear h
  have Z28 : ∀ w, (zeroValue 28).run Try.prog w = .ok (.agg (nums .i64 (List.replicate 15 0)).toArray) w := fun _ => by kernel_rfl
  have Z42 : ∀ w, (zeroValue 42).run Try.prog w = .ok (.agg (nums .i64 (List.replicate 24 0)).toArray) w := fun _ => by kernel_rfl
  have BZ : ∀ w, (Instr.build 42 #[]).run Try.prog w = .ok (.agg (nums .i64 (List.replicate 24 0)).toArray) w := fun w_ => run_build w_ 42 _ _ (by kernel_rfl)
  have BU : ∀ (x0 x1 x2 x3 x4 x6 x7 x8 : Int) (w : World), (Instr.build 42 #[(0, .int .i64 x0), (1, .int .i64 x1), (2, .int .i64 x2), (3, .int .i64 x3), (4, .int .i64 x4), (6, .int .i64 x6), (7, .int .i64 x7), (8, .int .i64 x8)]).run Try.prog w = .ok (.agg (nums .i64 ([x0, x1, x2, x3, x4, 0, x6, x7, x8] ++ List.replicate 15 0)).toArray) w := fun y0 y1 y2 y3 y4 y6 y7 y8 w_ => run_build w_ 42 _ _ (by kernel_rfl)
  go_enter Try.func66, Try.ntmps66
  go_wp2_with (first | ((with_reducible refine gate_dst (N := 2) rfl ?_); obtain ⟨sR, Sz_, hR⟩ := D.out.size_ S0; refine hx_alloc rfl 2 rfl 42 rfl Sz_ (.agg (nums .i64 (List.replicate 24 0)).toArray) (nums .i64 (List.replicate 24 0)).toArray Z42 rfl ?_; intro wn sn Ln_ Sn_ bn_ gn_; clear Ln_ Sn_ Sz_; have X_ := Aside0.mk (D.out.below bn_); clear D; have D := X_; clear X_; have BR : Aside0 (Blk 24 42 sR wn) := ⟨Blk.of List.length_replicate gn_⟩; clear bn_ gn_) | ((with_reducible refine gate_dst (N := 5) rfl ?_); refine goesL_ (some 5) rfl rfl Try.func67 (by kernel_rfl) rfl #[.pointer (some ⟨g, 0, none⟩), .int .i64 8] rfl (by (try simp only [List.map_toArray, List.map_cons, List.map_nil]); first | done | rfl) ?_; refine (One_any hb (by omega) (by omega) D.out).mono ?_; rintro e_ wn ⟨b5, rfl, d_⟩; refine ⟨_, rfl, ?_⟩; have X_ := Aside0.mk (BR.out.draw d_ (by omega)); clear BR; have BR := X_; clear X_; have X_ := Aside0.mk (D.out.draw d_); clear D; have D := X_; clear X_; clear d_; cases b5) | ((with_reducible refine gate_dst (N := 6) rfl ?_); refine ex_build rfl 42 #[] rfl #[] (by simp only [List.map_toArray, List.map_cons, List.map_nil]; rfl) (.agg (nums .i64 (List.replicate 24 0)).toArray) BZ ?_) | ((with_reducible refine gate_store (t := 42) (p := 2) (v := .tmp 6) rfl ?_); refine ex_store rfl rfl 42 (.tmp 2) (.tmp 6) rfl sR rfl (List.replicate 24 0) rfl (by kernel_rfl) (by simp) BR.out ?_; clear BR; intro wn tn_ gn_; have X_ := Aside0.mk (D.out.touch S0 hg0 hR tn_); clear D; have D := X_; clear X_; have BR := Aside0.mk gn_; clear tn_ gn_) | ((with_reducible refine gate_dst (N := 8) rfl ?_); refine goesL_ (some 8) rfl rfl Try.func63 (by kernel_rfl) rfl #[.pointer (some ⟨g, 0, none⟩), .int .i64 3] rfl (by (try simp only [List.map_toArray, List.map_cons, List.map_nil]); first | done | rfl) ?_; refine (N_any hb (by omega) (by omega) D.out).mono ?_; rintro e_ wn ⟨v8, rfl, hv_, d_⟩; refine ⟨_, rfl, ?_⟩; have X_ := Aside0.mk (BR.out.draw d_ (by omega)); clear BR; have BR := X_; clear X_; have X_ := Aside0.mk (D.out.draw d_); clear D; have D := X_; clear X_; clear d_; have V8 := Aside0.mk hv_; clear hv_) | ((with_reducible refine gate_dst (N := 11) rfl ?_); refine goesL_ (some 11) rfl rfl Try.func63 (by kernel_rfl) rfl #[.pointer (some ⟨g, 0, none⟩), .int .i64 5] rfl (by (try simp only [List.map_toArray, List.map_cons, List.map_nil]); first | done | rfl) ?_; refine (N_any hb (by omega) (by omega) D.out).mono ?_; rintro e_ wn ⟨v11, rfl, hv_, d_⟩; refine ⟨_, rfl, ?_⟩; have X_ := Aside0.mk (BR.out.draw d_ (by omega)); clear BR; have BR := X_; clear X_; have X_ := Aside0.mk (D.out.draw d_); clear D; have D := X_; clear X_; clear d_; have V11 := Aside0.mk hv_; clear hv_) | ((with_reducible refine gate_dst (N := 14) rfl ?_); refine goesL_ (some 14) rfl rfl Try.func63 (by kernel_rfl) rfl #[.pointer (some ⟨g, 0, none⟩), .int .i64 4096] rfl (by (try simp only [List.map_toArray, List.map_cons, List.map_nil]); first | done | rfl) ?_; refine (N_any hb (by omega) (by omega) D.out).mono ?_; rintro e_ wn ⟨v14, rfl, hv_, d_⟩; refine ⟨_, rfl, ?_⟩; have X_ := Aside0.mk (BR.out.draw d_ (by omega)); clear BR; have BR := X_; clear X_; have X_ := Aside0.mk (D.out.draw d_); clear D; have D := X_; clear X_; clear d_; have V14 := Aside0.mk hv_; clear hv_) | ((with_reducible refine gate_dst (N := 16) rfl ?_); refine goesL_ (some 16) rfl rfl Try.func63 (by kernel_rfl) rfl #[.pointer (some ⟨g, 0, none⟩), .int .i64 3] rfl (by (try simp only [List.map_toArray, List.map_cons, List.map_nil]); first | done | rfl) ?_; refine (N_any hb (by omega) (by omega) D.out).mono ?_; rintro e_ wn ⟨v16, rfl, hv_, d_⟩; refine ⟨_, rfl, ?_⟩; have X_ := Aside0.mk (BR.out.draw d_ (by omega)); clear BR; have BR := X_; clear X_; have X_ := Aside0.mk (D.out.draw d_); clear D; have D := X_; clear X_; clear d_; have V16 := Aside0.mk hv_; clear hv_) | ((with_reducible refine gate_dst (N := 18) rfl ?_); refine goesL_ (some 18) rfl rfl Try.func63 (by kernel_rfl) rfl #[.pointer (some ⟨g, 0, none⟩), .int .i64 3] rfl (by (try simp only [List.map_toArray, List.map_cons, List.map_nil]); first | done | rfl) ?_; refine (N_any hb (by omega) (by omega) D.out).mono ?_; rintro e_ wn ⟨v18, rfl, hv_, d_⟩; refine ⟨_, rfl, ?_⟩; have X_ := Aside0.mk (BR.out.draw d_ (by omega)); clear BR; have BR := X_; clear X_; have X_ := Aside0.mk (D.out.draw d_); clear D; have D := X_; clear X_; clear d_; have V18 := Aside0.mk hv_; clear hv_) | ((with_reducible refine gate_dst (N := 20) rfl ?_); refine goesL_ (some 20) rfl rfl Try.func63 (by kernel_rfl) rfl #[.pointer (some ⟨g, 0, none⟩), .int .i64 50] rfl (by (try simp only [List.map_toArray, List.map_cons, List.map_nil]); first | done | rfl) ?_; refine (N_any hb (by omega) (by omega) D.out).mono ?_; rintro e_ wn ⟨v20, rfl, hv_, d_⟩; refine ⟨_, rfl, ?_⟩; have X_ := Aside0.mk (BR.out.draw d_ (by omega)); clear BR; have BR := X_; clear X_; have X_ := Aside0.mk (D.out.draw d_); clear D; have D := X_; clear X_; clear d_; have V20 := Aside0.mk hv_; clear hv_) | ((with_reducible refine gate_dst (N := 23) rfl ?_); refine goesL_ (some 23) rfl rfl Try.func63 (by kernel_rfl) rfl #[.pointer (some ⟨g, 0, none⟩), .int .i64 50] rfl (by (try simp only [List.map_toArray, List.map_cons, List.map_nil]); first | done | rfl) ?_; refine (N_any hb (by omega) (by omega) D.out).mono ?_; rintro e_ wn ⟨v23, rfl, hv_, d_⟩; refine ⟨_, rfl, ?_⟩; have X_ := Aside0.mk (BR.out.draw d_ (by omega)); clear BR; have BR := X_; clear X_; have X_ := Aside0.mk (D.out.draw d_); clear D; have D := X_; clear X_; clear d_; have V23 := Aside0.mk hv_; clear hv_) | ((with_reducible refine gate_dst (N := 26) rfl ?_); refine goesL_ (some 26) rfl rfl Try.func63 (by kernel_rfl) rfl #[.pointer (some ⟨g, 0, none⟩), .int .i64 50] rfl (by (try simp only [List.map_toArray, List.map_cons, List.map_nil]); first | done | rfl) ?_; refine (N_any hb (by omega) (by omega) D.out).mono ?_; rintro e_ wn ⟨v26, rfl, hv_, d_⟩; refine ⟨_, rfl, ?_⟩; have X_ := Aside0.mk (BR.out.draw d_ (by omega)); clear BR; have BR := X_; clear X_; have X_ := Aside0.mk (D.out.draw d_); clear D; have D := X_; clear X_; clear d_; have V26 := Aside0.mk hv_; clear hv_) | ((with_reducible refine gate_dst (N := 28) rfl ?_); refine ex_build rfl 42 #[(0, .tmp 9), (1, .tmp 12), (2, .tmp 14), (3, .tmp 16), (4, .tmp 18), (6, .tmp 21), (7, .tmp 24), (8, .tmp 27)] rfl #[(0, .int .i64 (wrap64 (1 + v8))), (1, .int .i64 (wrap64 (1 + v11))), (2, .int .i64 v14), (3, .int .i64 v16), (4, .int .i64 v18), (6, .int .i64 (wrap64 (1 + v20))), (7, .int .i64 (wrap64 (1 + v23))), (8, .int .i64 (wrap64 (1 + v26)))] (by simp only [List.map_toArray, List.map_cons, List.map_nil]; rfl) (.agg (nums .i64 ([(wrap64 (1 + v8)), (wrap64 (1 + v11)), v14, v16, v18, 0, (wrap64 (1 + v20)), (wrap64 (1 + v23)), (wrap64 (1 + v26))] ++ List.replicate 15 0)).toArray) (BU _ _ _ _ _ _ _ _) ?_) | ((with_reducible refine gate_dst (N := 3) rfl ?_); obtain ⟨sA, Sz_, hA⟩ := D.out.size_ S0; have hRA : sR < sA := (by have q_ := BR.out.lt; rw [Sz_.out] at q_; exact q_); refine hx_alloc rfl 3 rfl 42 rfl Sz_ (.agg (nums .i64 (List.replicate 24 0)).toArray) (nums .i64 (List.replicate 24 0)).toArray Z42 rfl ?_; intro wn sn Ln_ Sn_ bn_ gn_; clear Ln_ Sn_ Sz_; have X_ := Aside0.mk (BR.out.below bn_); clear BR; have BR := X_; clear X_; have X_ := Aside0.mk (D.out.below bn_); clear D; have D := X_; clear X_; have BA : Aside0 (Blk 24 42 sA wn) := ⟨Blk.of List.length_replicate gn_⟩; clear bn_ gn_) | ((with_reducible refine gate_store (t := 42) (p := 3) (v := .tmp 28) rfl ?_); refine ex_store rfl rfl 42 (.tmp 3) (.tmp 28) rfl sA rfl ([(wrap64 (1 + v8)), (wrap64 (1 + v11)), v14, v16, v18, 0, (wrap64 (1 + v20)), (wrap64 (1 + v23)), (wrap64 (1 + v26))] ++ List.replicate 15 0) rfl (by kernel_rfl) (by simp) BA.out ?_; clear BA; intro wn tn_ gn_; have X_ := Aside0.mk (BR.out.touch tn_ (by omega)); clear BR; have BR := X_; clear X_; have X_ := Aside0.mk (D.out.touch S0 hg0 hA tn_); clear D; have D := X_; clear X_; have BA := Aside0.mk gn_; clear tn_ gn_) | ((with_reducible refine gate_dst (N := 30) rfl ?_); refine ex_loadf rfl 3 (.tmp 29) rfl sA 0 rfl Try.underlying3 rfl BA.out (by decide) ?_; intro vk; rcases Bool.eq_false_or_eq_true (vk == 2) with ck | ck) | ((with_reducible refine gate_dst (N := 33) rfl ?_); refine goesL_ (some 33) rfl rfl Try.func63 (by kernel_rfl) rfl #[.pointer (some ⟨g, 0, none⟩), .int .i64 9] rfl (by (try simp only [List.map_toArray, List.map_cons, List.map_nil]); first | done | rfl) ?_; refine (N_any hb (by omega) (by omega) D.out).mono ?_; rintro e_ wn ⟨v33, rfl, hv_, d_⟩; refine ⟨_, rfl, ?_⟩; have X_ := Aside0.mk (BR.out.draw d_ (by omega)); clear BR; have BR := X_; clear X_; have X_ := Aside0.mk (BA.out.draw d_ (by omega)); clear BA; have BA := X_; clear X_; have X_ := Aside0.mk (D.out.draw d_); clear D; have D := X_; clear X_; clear d_; have V33 := Aside0.mk hv_; clear hv_) | ((with_reducible refine gate_store (t := 3) (p := 35) (v := .tmp 34) rfl ?_); refine ex_storef rfl rfl 3 (.tmp 35) (.tmp 34) rfl sA (5) rfl _ rfl (by kernel_rfl) BA.out (by decide) ?_; clear BA; intro wn tn_ gn_; have X_ := Aside0.mk (BR.out.touch tn_ (by omega)); clear BR; have BR := X_; clear X_; have X_ := Aside0.mk (D.out.touch S0 hg0 hA tn_); clear D; have D := X_; clear X_; have BA := Aside0.mk gn_; clear tn_ gn_) | ((with_reducible refine gate_dst (N := 37) rfl ?_); refine goesL_ (some 37) rfl rfl Try.func67 (by kernel_rfl) rfl #[.pointer (some ⟨g, 0, none⟩), .int .i64 6] rfl (by (try simp only [List.map_toArray, List.map_cons, List.map_nil]); first | done | rfl) ?_; refine (One_any hb (by omega) (by omega) D.out).mono ?_; rintro e_ wn ⟨b37, rfl, d_⟩; refine ⟨_, rfl, ?_⟩; have X_ := Aside0.mk (BR.out.draw d_ (by omega)); clear BR; have BR := X_; clear X_; have X_ := Aside0.mk (BA.out.draw d_ (by omega)); clear BA; have BA := X_; clear X_; have X_ := Aside0.mk (D.out.draw d_); clear D; have D := X_; clear X_; clear d_; cases b37) | ((with_reducible refine gate_store (t := 3) (p := 38) (v := .const (.int .i64 1000)) rfl ?_); refine ex_storef rfl rfl 3 (.tmp 38) (.const (.int .i64 1000)) rfl sA (1) rfl _ rfl (by kernel_rfl) BA.out (by decide) ?_; clear BA; intro wn tn_ gn_; have X_ := Aside0.mk (BR.out.touch tn_ (by omega)); clear BR; have BR := X_; clear X_; have X_ := Aside0.mk (D.out.touch S0 hg0 hA tn_); clear D; have D := X_; clear X_; have BA := Aside0.mk gn_; clear tn_ gn_) | ((with_reducible refine gate_store (t := 3) (p := 39) (v := .const (.int .i64 65535)) rfl ?_); refine ex_storef rfl rfl 3 (.tmp 39) (.const (.int .i64 65535)) rfl sA (3) rfl _ rfl (by kernel_rfl) BA.out (by decide) ?_; clear BA; intro wn tn_ gn_; have X_ := Aside0.mk (BR.out.touch tn_ (by omega)); clear BR; have BR := X_; clear X_; have X_ := Aside0.mk (D.out.touch S0 hg0 hA tn_); clear D; have D := X_; clear X_; have BA := Aside0.mk gn_; clear tn_ gn_) | ((with_reducible refine gate_store (t := 3) (p := 40) (v := .const (.int .i64 1099511627776)) rfl ?_); refine ex_storef rfl rfl 3 (.tmp 40) (.const (.int .i64 1099511627776)) rfl sA (6) rfl _ rfl (by kernel_rfl) BA.out (by decide) ?_; clear BA; intro wn tn_ gn_; have X_ := Aside0.mk (BR.out.touch tn_ (by omega)); clear BR; have BR := X_; clear X_; have X_ := Aside0.mk (D.out.touch S0 hg0 hA tn_); clear D; have D := X_; clear X_; have BA := Aside0.mk gn_; clear tn_ gn_) | ((with_reducible refine gate_dst (N := 43) rfl ?_); refine goesL_ (some 43) rfl rfl Try.func83 (by kernel_rfl) rfl #[.pointer (some ⟨g, 0, none⟩)] rfl (by (try simp only [List.map_toArray, List.map_cons, List.map_nil]); first | done | rfl) ?_; refine (Size_any hb D.out).mono ?_; rintro e_ wn ⟨vz, rfl, d_⟩; refine ⟨_, rfl, ?_⟩; have X_ := Aside0.mk (BR.out.draw d_ (by omega)); clear BR; have BR := X_; clear X_; have X_ := Aside0.mk (BA.out.draw d_ (by omega)); clear BA; have BA := X_; clear X_; have X_ := Aside0.mk (D.out.draw d_); clear D; have D := X_; clear X_; clear d_) | ((with_reducible refine gate_dst (N := 44) rfl ?_); refine goesL_ (some 44) rfl rfl Try.func82 (by kernel_rfl) rfl #[.pointer (some ⟨g, 0, none⟩), .int .i64 vz, .int .i64 2048] rfl (by (try simp only [List.map_toArray, List.map_cons, List.map_nil]); first | done | rfl) ?_; refine (Root_any hb vz D.out).mono ?_; rintro e_ wn ⟨LQ, rfl, nq_, d_⟩; refine ⟨_, rfl, ?_⟩; have X_ := Aside0.mk (BR.out.draw d_ (by omega)); clear BR; have BR := X_; clear X_; have X_ := Aside0.mk (BA.out.draw d_ (by omega)); clear BA; have BA := X_; clear X_; have X_ := Aside0.mk (D.out.draw d_); clear D; have D := X_; clear X_; clear d_; have NLQ := Aside0.mk nq_; clear nq_) | ((with_reducible refine gate_store (t := 28) (p := 45) (v := .tmp 44) rfl ?_); refine ex_storep rfl rfl 28 (.tmp 45) (.tmp 44) rfl sA 9 15 rfl _ rfl (by kernel_rfl) NLQ.out BA.out (by decide) ?_; clear BA; intro wn tn_ gn_; have X_ := Aside0.mk (BR.out.touch tn_ (by omega)); clear BR; have BR := X_; clear X_; have X_ := Aside0.mk (D.out.touch S0 hg0 hA tn_); clear D; have D := X_; clear X_; have BA := Aside0.mk gn_; clear tn_ gn_) | ((with_reducible refine gate_dst (N := 46) rfl ?_); refine ex_load rfl 42 (.tmp 3) rfl sA rfl Try.underlying42 rfl (by kernel_rfl) BA.out ?_; intro LL nLL_; have NLL := Aside0.mk nLL_; clear nLL_) | ((with_reducible refine gate_store (t := 42) (p := 2) (v := .tmp 46) rfl ?_); refine ex_store rfl rfl 42 (.tmp 2) (.tmp 46) rfl sR rfl _ rfl (by kernel_rfl) NLL.out BR.out ?_; clear BR; intro wn tn_ gn_; have X_ := Aside0.mk (BA.out.touch tn_ (by omega)); clear BA; have BA := X_; clear X_; have X_ := Aside0.mk (D.out.touch S0 hg0 hR tn_); clear D; have D := X_; clear X_; have BR := Aside0.mk gn_; clear tn_ gn_))
  all_goals (obtain ⟨LR, nR, gR⟩ := BR.out; exact bodyPost_ret (results_cell_row rfl _ _ sR 42 (nums .i64 LR).toArray (0, 0) _ rfl gR Try.underlying42 rfl (by rw [nums_size _ _ _ nR]; kernel_rfl)) rfl ⟨LR, rfl, nR, D.out⟩)

/-- A row of one's own, of m inodes. -/
def Rw (w0 w : World) (s0 : Nat) (v : Value) (m : Nat) : Prop := ∃ xs : List (List Int), xs.length = m ∧ Kd.R (PrintHx.wide 24) 42 w w0.heap.size (fun k => s0 ≤ k) v xs
theorem info42 : (Try.prog.info? 42).map (fun i => (i.zero, i.size, i.bytes)) = some (some (.agg (nums .i64 (List.replicate 24 0)).toArray), 24, 192) := by kernel_rfl
section
variable {b : List Int} {g s0 : Nat} {w0 w w1 w2 : World} {v : Value} {m : Nat}
theorem Rw.slice (h : Rw w0 w s0 v m) : ∃ A c, v = .slice A m c := by
  obtain ⟨xs, rfl, h⟩ := h
  exact Kd.R_slice h
theorem Rw.draw (h : Rw w0 w1 s0 v m) (k : Dr b g w0 w1 w2) (hg : g < s0) : Rw w0 w2 s0 v m := by
  obtain ⟨xs, hm, h⟩ := h
  exact ⟨xs, hm, Kd.R_kept h (kept_keep k.kp) (fun k_ hk_ (he_ : k_ = g) => by omega)⟩
theorem Rw.form (h : Rw w0 w s0 v m) (hm : 0 < m) : ∃ g' c, v = .slice (some ⟨g', 0, none⟩) m c := by
  obtain ⟨xs, rfl, h⟩ := h
  obtain ⟨g', c, h1, _⟩ := Kd.R_form h hm
  exact ⟨g', c, h1⟩
variable {ops : Array Oper} {rest : List Oper} {o : Oper} {a : Act} {Q : Exit → Act → World → Prop}
theorem ex_lit (hgd : o.guard = none) {N : Tmp} (hd : o.dst = some N) {L : List Int} (hL : L.length = 24) (D : Aside0 (Dr b g w0 w w1)) (S0 : Aside0 (w.heap.size = s0)) (hg0 : g < s0)
    (hrun : (execOp a.eval o).run Try.prog w1 = .ok (.value (.slice (some ⟨w1.heap.size, 0, none⟩) 1 1)) (w1.alloc (.cells (nums .i64 L).toArray 42)))
    (h : ∀ v1 w2, Rw w0 w2 s0 v1 1 → Dr b g w0 w w2 → wpList Try.prog ops Q rest (a.put o.dst v1) w2) : wpList Try.prog ops Q (o :: rest) a w1 := by
  have hs : s0 ≤ w1.heap.size := by rw [← S0.out]; exact D.out.kp.1
  refine Kd.R_lit (PrintHx.wide 24) (w0 := w0) w0.heap.size 42 hgd hd (xs := [L]) (inner := nums .i64 L) (ok := fun k => s0 ≤ k) (okp := fun _ => False) hrun ((Reps.none _ _).snoc ⟨hL, rfl⟩ (by simp [nums, hL, PrintHx.wide])) (fun _ hk => hk.elim) hs D.out.bl D.out.bl.size (by simp) ?_
  intro v1 w2 ho hb hg _
  exact h v1 w2 ⟨[L], rfl, ho⟩ (D.out.grown S0 hg0 hb hg (fun k hk => by cases hk))
theorem run_one (w : World) {L : List Int} (hL : L.length = 24) : (Instr.buildSlice 51 1 #[(0, .agg (nums .i64 L).toArray)]).run Try.prog w = .ok (.slice (some ⟨w.heap.size, 0, none⟩) 1 1) (w.alloc (.cells (nums .i64 L).toArray 42)) := by
  obtain ⟨x0, b0, rfl, h0⟩ := cons_of_len hL
  obtain ⟨x1, b1, rfl, h1⟩ := cons_of_len h0
  obtain ⟨x2, b2, rfl, h2⟩ := cons_of_len h1
  obtain ⟨x3, b3, rfl, h3⟩ := cons_of_len h2
  obtain ⟨x4, b4, rfl, h4⟩ := cons_of_len h3
  obtain ⟨x5, b5, rfl, h5⟩ := cons_of_len h4
  obtain ⟨x6, b6, rfl, h6⟩ := cons_of_len h5
  obtain ⟨x7, b7, rfl, h7⟩ := cons_of_len h6
  obtain ⟨x8, b8, rfl, h8⟩ := cons_of_len h7
  obtain ⟨x9, b9, rfl, h9⟩ := cons_of_len h8
  obtain ⟨x10, b10, rfl, h10⟩ := cons_of_len h9
  obtain ⟨x11, b11, rfl, h11⟩ := cons_of_len h10
  obtain ⟨x12, b12, rfl, h12⟩ := cons_of_len h11
  obtain ⟨x13, b13, rfl, h13⟩ := cons_of_len h12
  obtain ⟨x14, b14, rfl, h14⟩ := cons_of_len h13
  obtain ⟨x15, b15, rfl, h15⟩ := cons_of_len h14
  obtain ⟨x16, b16, rfl, h16⟩ := cons_of_len h15
  obtain ⟨x17, b17, rfl, h17⟩ := cons_of_len h16
  obtain ⟨x18, b18, rfl, h18⟩ := cons_of_len h17
  obtain ⟨x19, b19, rfl, h19⟩ := cons_of_len h18
  obtain ⟨x20, b20, rfl, h20⟩ := cons_of_len h19
  obtain ⟨x21, b21, rfl, h21⟩ := cons_of_len h20
  obtain ⟨x22, b22, rfl, h22⟩ := cons_of_len h21
  obtain ⟨x23, b23, rfl, h23⟩ := cons_of_len h22
  obtain rfl := List.length_eq_zero_iff.mp h23
  obtain ⟨ie, hie, hz⟩ := Option.map_eq_some_iff.1 info42
  simp only [Prod.mk.injEq] at hz
  obtain ⟨hz1, hz2, _⟩ := hz
  exact run_buildSlice w 51 42 1 _ _ ie _ Try.underlying51 hie hz1 (by rw [hz2]; decide) (by rw [hz2]; decide) (by rw [hz2]; kernel_rfl)
theorem ex_one (hgd : o.guard = none) {N : Tmp} (hd : o.dst = some N) (x : Operand) (ho : o.op = .buildSlice 51 1 #[(0, x)]) {L : List Int} (hx : a.eval x = .agg (nums .i64 L).toArray) (hL : L.length = 24)
    (h : wpList Try.prog ops Q rest (a.put (some N) (.slice (some ⟨w.heap.size, 0, none⟩) 1 1)) (w.alloc (.cells (nums .i64 L).toArray 42))) : wpList Try.prog ops Q (o :: rest) a w := by
  refine Go.Great.wpList_runTo hgd (some N) hd _ _ ?_ h
  unfold execOp
  simp only [ho, List.map_toArray, List.map_cons, List.map_nil, hx, Sem.run_bind, run_one w hL, Result.andThen_ok, Sem.run_pure]
theorem ex_append (hgd : o.guard = none) (x y : Operand) (ho : o.op = .call { callee := .builtin .append, args := #[x, y], argTypes := #[51, 51] }) (hs : a.eval x = v) (hx : a.eval y = .slice (some ⟨w1.heap.size, 0, none⟩) 1 1)
    {L : List Int} (hL : L.length = 24) (D : Aside0 (Dr b g w0 w w1)) (S0 : Aside0 (w.heap.size = s0)) (hg0 : g < s0) (O : Aside0 (Rw w0 w1 s0 v m)) (hm : m ≤ 1000000)
    (h : ∀ v1 w2, Rw w0 w2 s0 v1 (m + 1) → Dr b g w0 w w2 → wpList Try.prog ops Q rest (a.put o.dst v1) w2) : wpList Try.prog ops Q (o :: rest) a (w1.alloc (.cells (nums .i64 L).toArray 42)) := by
  obtain ⟨xs, hxs, hO⟩ := O.out
  refine Kd.R_append (PrintHx.wide 24) (w0 := w0) w0.heap.size hgd x y 51 42 (.agg (nums .i64 (List.replicate 24 0)).toArray) 192 ho Try.underlying51 info42 (by kernel_rfl) (by decide) (by omega) v xs L (nums .i64 L) (fun k => s0 ≤ k) (fun _ => False) hs hx ⟨hL, rfl⟩ (fun _ hk => hk.elim)
    (fun k_ hk_ => by have q_ := D.out.kp.1; have q2_ := S0.out; omega) hO D.out.bl D.out.bl.size (by omega) ?_
  intro v1 w2 ho' hb hg _
  exact h v1 w2 ⟨xs ++ [L], by simp [hxs], ho'⟩ (D.out.grown S0 hg0 hb hg (fun k hk => hO.1 k hk))
theorem ex_put (hgd : o.guard = none) (hN : o.dst = none) (p x : Operand) (ho : o.op = .store 42 p x) {g' c off : Nat} (j : Nat) (hp : a.eval p = .pointer (some ⟨g', off, none⟩)) (hoff : off = j * 24) (M : List Int) (hx : a.eval x = .agg (nums .i64 M).toArray) (hM : M.length = 24)
    (D : Aside0 (Dr b g w0 w w1)) (S0 : Aside0 (w.heap.size = s0)) (hg0 : g < s0) (O : Aside0 (Rw w0 w1 s0 (.slice (some ⟨g', 0, none⟩) m c) m)) (hj : j < m)
    (h : ∀ w2, Rw w0 w2 s0 (.slice (some ⟨g', 0, none⟩) m c) m → Dr b g w0 w w2 → wpList Try.prog ops Q rest a w2) : wpList Try.prog ops Q (o :: rest) a w1 := by
  obtain ⟨xs, hxs, hO⟩ := O.out
  subst hxs
  refine hx_put (w0 := w0) w0.heap.size hN hgd 42 p x ho 42 j xs M (fun k => s0 ≤ k) hp hoff hx (by kernel_rfl) hM hO hj D.out.bl ?_
  intro w2 h1 h2 h3
  exact h w2 ⟨xs.set j M, by rw [List.length_set], h1⟩ (D.out.grown S0 hg0 h2 h3 (fun k hk => hO.1 k (by simpa [Value.ownBlock] using hk)))
end
set_option maxHeartbeats 8000000 in
set_option maxRecDepth 100000 in
theorem Table_any {b : List Int} {g : Nat} {w0 w' w : World} (hb : b.length ≤ 1048576) (n : Nat) (hn : n ≤ 14) (h : Dr b g w0 w' w) : Calls Try.prog 62 #[.pointer (some ⟨g, 0, none⟩), .int .i64 (n : Int)] w fun e w2 => ∃ (v : Value) (m : Nat), e = .returned v ∧ Rw w0 w2 w.heap.size v m ∧ (1 ≤ m ∧ m ≤ 15) ∧ Dr b g w0 w w2 := by
  have D := Aside0.mk h.again
  obtain ⟨s0, S0⟩ : ∃ s0, Aside0 (w.heap.size = s0) := ⟨_, ⟨rfl⟩⟩
  have hg0 : g < s0 := by (have q_ := h.lt; rw [S0.out] at q_; exact q_)
  clear h
  have Z28 : ∀ w, (zeroValue 28).run Try.prog w = .ok (.agg (nums .i64 (List.replicate 15 0)).toArray) w := fun _ => by kernel_rfl
  have Z42 : ∀ w, (zeroValue 42).run Try.prog w = .ok (.agg (nums .i64 (List.replicate 24 0)).toArray) w := fun _ => by kernel_rfl
  have HN := Aside0.mk hn
  clear hn
  have BZ : ∀ w, (Instr.build 42 #[]).run Try.prog w = .ok (.agg (nums .i64 (List.replicate 24 0)).toArray) w := fun w_ => run_build w_ 42 _ _ (by kernel_rfl)
  go_enter Try.func62, Try.ntmps62
  go_wp2_with (first | ((with_reducible refine gate_dst (N := 7) rfl ?_); refine ex_build rfl 42 #[] rfl #[] (by simp only [List.map_toArray, List.map_cons, List.map_nil]; rfl) (.agg (nums .i64 (List.replicate 24 0)).toArray) BZ ?_) | ((with_reducible refine gate_dst (N := 8) rfl ?_); refine ex_lit rfl (N := 8) rfl (L := List.replicate 24 0) (by simp) D S0 hg0 ?hr ?_; (case hr => first | (go_simp; done) | (go_simp; rfl)); clear D; intro vn wn o_ d_; have D := Aside0.mk d_; have O := Aside0.mk o_; clear d_ o_))
  (try simp only [Act.put, List.setIfInBounds_toArray, List.set_cons_succ, List.set_cons_zero])
  go_loopg [5, 6] n (fun kq v5 v6 wr => ∃ i : Nat, v6 = .int .i64 (i : Int) ∧ Aside0 (kq + i = n) ∧ Aside0 (Rw w0 wr s0 v5 (i + 1)) ∧ Aside0 (Dr b g w0 w wr))
  case atStart => exact ⟨0, rfl, ⟨by omega⟩, O, D⟩
  case round =>
    clear D O
    obtain ⟨i, rfl, hki, O, D⟩ := hrel
    by_cases ci : i < n
    case pos =>
      have ci0 : decide ((i : Int) < (n : Int)) = true := decide_eq_true (by omega)
      have ci1 : decide (i < n) = true := decide_eq_true ci
      have CI := Aside0.mk ci
      clear ci
      have hw_ : wrap64 ((i : Int) + 1) = ((i + 1 : Nat) : Int) := by (have := CI.out; have := HN.out; unfold wrap64; omega)
      go_wp2_with (first | ((with_reducible refine gate_dst (N := 16) rfl ?_); refine goesL_ (some 16) rfl rfl Try.func66 (by kernel_rfl) rfl #[.pointer (some ⟨g, 0, none⟩)] rfl (by (try simp only [List.map_toArray, List.map_cons, List.map_nil]); first | done | rfl) ?_; refine (Inode_any hb D.out).mono ?_; rintro e_ wn ⟨LI, rfl, nl_, d_⟩; refine ⟨_, rfl, ?_⟩; have X_ := Aside0.mk (O.out.draw d_ hg0); clear O; have O := X_; clear X_; have X_ := Aside0.mk (D.out.draw d_); clear D; have D := X_; clear X_; clear d_; have NLI := Aside0.mk nl_; clear nl_) | ((with_reducible refine gate_dst (N := 17) rfl ?_); refine ex_one rfl rfl (.tmp 16) rfl rfl NLI.out ?_) | ((with_reducible refine gate_builtin (b := .append) (xs := #[.tmp 14, .tmp 17]) rfl ?_); at_builtin; refine ex_append rfl (.tmp 14) (.tmp 17) rfl rfl rfl (L := LI) NLI.out D S0 hg0 O (by have := CI.out; have := HN.out; omega) ?_; clear D O; intro vn wn o_ d_; have D := Aside0.mk d_; have O := Aside0.mk o_; clear d_ o_))
      cases gk with
      | zero => exact absurd CI.out (by have := hki.out; omega)
      | succ gk =>
        go_roundg gk
        case measure => omega
        case rel => exact ⟨i + 1, by rw [hw_], ⟨by have := hki.out; omega⟩, O, D⟩
    case neg =>
      have ci0 : decide ((i : Int) < (n : Int)) = false := decide_eq_false (by omega)
      have ci1 : decide (i < n) = false := decide_eq_false ci
      have hi_ : i + 1 ≤ 15 := by (have := hki.out; have := HN.out; omega)
      clear ci hki
      go_wp2
      go_ret
      have e_ := S0.out
      subst e_
      exact ⟨_, _, rfl, O.out, ⟨by omega, hi_⟩, D.out⟩
end Go.Proofs.Ytkghgjehjchajaa.PFnTable
