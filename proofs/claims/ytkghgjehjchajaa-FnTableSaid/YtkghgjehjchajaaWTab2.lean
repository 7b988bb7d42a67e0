/- Tables of inodes: which are right, their bytes, the marks; and steps of walks (a guarded operation that is performed, '!=' of wide structs, one more, copy onto a block, a cut of a block). No condition. -/
import Derived.Test.YtkghgjehjchajaaWDec3
import Derived.Test.YtkghgjehjchajaaWEqW
import Derived.Test.YtkghgjehjchajaaWRaw
import Derived.Laws.CopyOwn
namespace Go.Proofs.YtkghgjehjchajaaW.PrintTab2
open Go.RowKit Go.Proofs.YtkghgjehjchajaaW.PrintWords Go.Proofs.YtkghgjehjchajaaW.PrintHand Go.Proofs.YtkghgjehjchajaaW.PrintHx Go.Proofs.YtkghgjehjchajaaW.PrintLe Go.Proofs.YtkghgjehjchajaaW.PrintIno Go.Proofs.YtkghgjehjchajaaW.PrintTabl Go.Proofs.YtkghgjehjchajaaW.PrintRaw Go.Proofs.YtkghgjehjchajaaW.PrintEqW
set_option linter.unusedVariables false
set_option linter.unusedSimpArgs false
section
variable {P : Program} {ops : Array Oper} {rest : List Oper} {o : Oper} {a : Act} {w : World} {Q : Exit → Act → World → Prop}
/-- A guarded operation whose guard says yes. -/
theorem ungd (hw : Region.wanted o (yielded ops a.tmps) = true) (h : wpList P ops Q ({ o with guard := none } :: rest) a w) : wpList P ops Q (o :: rest) a w := by
  unfold wpList at h ⊢
  rw [if_pos hw]
  rw [if_pos (by rfl)] at h
  cases o
  exact h
theorem neqw_binop {t n D : Nat} (h : EqW P t n D) (hD : D ≤ 10000) (a b : List Int) (w : World) (ha : a.length = n) (hb : b.length = n) : (binOp .neq t (.agg (nums .i64 a).toArray) (.agg (nums .i64 b).toArray)).run P w = .ok (.bool (!decide (a = b))) w := by
  obtain ⟨d, hd⟩ : ∃ d, 10000 = d + D := ⟨10000 - D, by omega⟩
  rw [run_neq_struct, hd, h d a b w ha hb]
  rfl
/-- '!=' of two values told as lists. -/
theorem wpList_neqw {t n D : Nat} (hgd : o.guard = none) (x y : Operand) (u : TypeId) (ho : o.op = .binOp .neq t x y u) (h : EqW P t n D) (hD : D ≤ 10000) (hm : P.eqGuardType P.depth t = false)
    (la lb : List Int) (hx : a.eval x = .agg (nums .i64 la).toArray) (hy : a.eval y = .agg (nums .i64 lb).toArray) (ha : la.length = n) (hb : lb.length = n)
    (hk : wpList P ops Q rest (a.put o.dst (.bool (!decide (la = lb)))) w) : wpList P ops Q (o :: rest) a w := by
  refine wpList_plain hgd fun K hK => ?_
  have hr := neqw_binop h hD la lb w ha hb
  have hg := run_eqGuard_agg (P := P) w .neq t x y (nums .i64 la).toArray (nums .i64 lb).toArray hm
  unfold Oper.wp execOp
  simp only [ho, hx, hy, Sem.run_bind, hg, hr, Result.andThen_ok, Sem.run_pure, Oper.upon_value]
  exact hK _ _ hk
/-- A sum of two numbers that count, as a letter. -/
theorem hx_addn (hgd : o.guard = none) (t : TypeId) (x y : Operand) (ho : o.op = .binOp .add t x y t) (p q : Nat) (hx : a.eval x = .int .i64 ((p : Nat) : Int)) (hy : a.eval y = .int .i64 ((q : Nat) : Int)) (hk : p + q < 9223372036854775807)
    (h : ∀ r : Nat, Aside0 (r = p + q) → wpList P ops Q rest (a.put o.dst (.int .i64 ((r : Nat) : Int))) w) : wpList P ops Q (o :: rest) a w := by
  refine wpList_plain hgd fun K hK => ?_
  have e : IntKind.i64.wrap ((p : Int) + (q : Int)) = ((p + q : Nat) : Int) := by
    simp [IntKind.wrap, IntKind.bits, IntKind.signed]
    omega
  have hr : (binOp .add t (.int .i64 (p : Int)) (.int .i64 (q : Int))).run P w = .ok (.int .i64 ((p + q : Nat) : Int)) w := by
    rw [← e]
    simp [binOp, Op.intArith]
  have hg : (eqGuard .add t x y (.int .i64 (p : Int)) (.int .i64 (q : Int))).run P w = .ok () w := by simp [eqGuard]
  unfold Oper.wp execOp
  simp only [ho, hx, hy, Sem.run_bind, hg, hr, Result.andThen_ok, Sem.run_pure, Oper.upon_value]
  exact hK _ _ (h _ ⟨rfl⟩)
/-- A product of two numbers that count, as a letter. -/
theorem hx_muln (hgd : o.guard = none) (t : TypeId) (x y : Operand) (ho : o.op = .binOp .mul t x y t) (p q : Nat) (hx : a.eval x = .int .i64 ((p : Nat) : Int)) (hy : a.eval y = .int .i64 ((q : Nat) : Int)) (hk : p * q < 9223372036854775807)
    (h : ∀ r : Nat, Aside0 (r = p * q) → wpList P ops Q rest (a.put o.dst (.int .i64 ((r : Nat) : Int))) w) : wpList P ops Q (o :: rest) a w := by
  refine wpList_plain hgd fun K hK => ?_
  have e : IntKind.i64.wrap ((p : Int) * (q : Int)) = ((p * q : Nat) : Int) := by
    rw [← Int.natCast_mul]
    simp only [IntKind.wrap, IntKind.bits, IntKind.signed]
    generalize p * q = z at hk
    simp
    omega
  have hr : (binOp .mul t (.int .i64 (p : Int)) (.int .i64 (q : Int))).run P w = .ok (.int .i64 ((p * q : Nat) : Int)) w := by
    rw [← e]
    simp [binOp, Op.intArith]
  have hg : (eqGuard .mul t x y (.int .i64 (p : Int)) (.int .i64 (q : Int))).run P w = .ok () w := by simp [eqGuard]
  unfold Oper.wp execOp
  simp only [ho, hx, hy, Sem.run_bind, hg, hr, Result.andThen_ok, Sem.run_pure, Oper.upon_value]
  exact hK _ _ (h _ ⟨rfl⟩)
/-- The lesser of two numbers, as a letter. -/
theorem hx_min (hgd : o.guard = none) (x y : Operand) (ts : Array TypeId) (ho : o.op = .call { callee := .builtin .min, args := #[x, y], argTypes := ts }) (p q : Int) (hx : a.eval x = .int .i64 p) (hy : a.eval y = .int .i64 q) (r : Int) (hr : (if q < p then q else p) = r)
    (h : wpList P ops Q rest (a.put o.dst (.int .i64 r)) w) : wpList P ops Q (o :: rest) a w := by
  refine wpList_plain hgd fun K hK => ?_
  subst hr
  unfold Oper.wp
  simp [execOp, ho, resolve, invoke, builtin, hx, hy, run_min_int2, Result.andThen]
  exact hK _ _ h
/-- The greater of two numbers, as a letter. -/
theorem hx_max (hgd : o.guard = none) (x y : Operand) (ts : Array TypeId) (ho : o.op = .call { callee := .builtin .max, args := #[x, y], argTypes := ts }) (p q : Int) (hx : a.eval x = .int .i64 p) (hy : a.eval y = .int .i64 q) (r : Int) (hr : (if q > p then q else p) = r)
    (h : wpList P ops Q rest (a.put o.dst (.int .i64 r)) w) : wpList P ops Q (o :: rest) a w := by
  refine wpList_plain hgd fun K hK => ?_
  subst hr
  unfold Oper.wp
  simp [execOp, ho, resolve, invoke, builtin, hx, hy, run_max_int2, Result.andThen]
  exact hK _ _ h
/-- Bytes laid over a part of a block. -/
theorem cp_num (hgd : o.guard = none) (d s : Operand) (dT sT : TypeId) (ho : o.op = .call { callee := .builtin .copy, args := #[d, s], argTypes := #[dT, sT] }) (elem : TypeId) (hu : P.underlying dT = some (.slice elem)) (hsz : (P.info? elem).map (·.size) = some 1)
    (g off dLen dCap : Nat) (A : Option Addr) (c : Nat) (X L : List Int) {t : TypeId} (hd : a.eval d = .slice (some ⟨g, off, none⟩) dLen dCap) (hs : a.eval s = .slice A X.length c)
    (hg : w.heap[g]? = some (.cells (nums .u8 L).toArray t (0, 0))) (hpos : 0 < X.length) (hfit : X.length ≤ dLen) (hfit2 : off + X.length ≤ L.length) (HX : Kd.C (Kd.int .u8) w A X.length X)
    (h : ∀ w', PrintHand.Touch g w w' → w'.heap[g]? = some (.cells (nums .u8 (L.take off ++ X ++ L.drop (off + X.length))).toArray t (0, 0)) → wpList P ops Q rest (a.put o.dst (.int .i64 ((X.length : Nat) : Int))) w') : wpList P ops Q (o :: rest) a w := by
  have hR := Kd.reads_of_C (enc := Value.int .u8) (d := (0 : Int)) (h1 := fun _ => rfl) HX
  obtain ⟨ad, rfl, hc⟩ := hR.2.2 hpos
  have hl : (nums .u8 X).length = X.length := by simp [nums]
  refine wpList_copy_own hgd d s dT sT ho elem hu hsz g off dLen dCap ad X.length c hd hs _ t hg (nums .u8 X) (by rw [hl]; exact (Nat.min_eq_left hfit).symm) ?_ (by rw [hl]; simpa [nums] using hfit2) ?_ ?_
  · intro j v hv
    have hj : j < X.length := by rw [← hl]; exact (List.getElem?_eq_some_iff.1 hv).1
    have h1 := hc j hj
    rw [h1, ← hv]
    simp [nums, List.getElem?_eq_getElem hj]
  · intro v hv
    obtain ⟨y, _, rfl⟩ := List.mem_map.1 hv
    rfl
  · rw [hl]
    have e : ((nums .u8 L).toArray.toList.take off ++ (nums .u8 X ++ (nums .u8 L).toArray.toList.drop (off + X.length))).toArray = (nums .u8 (L.take off ++ X ++ L.drop (off + X.length))).toArray := by
      simp [nums, List.map_take, List.map_drop]
    rw [e]
    exact h _ ⟨rfl, rfl, rfl, by simp [World.setRow], fun k hk => PrintHand.setRow_other hk⟩ (setRow_same hg)
/-- A block's slice, cut from place j on. -/
theorem hx_cut (hgd : o.guard = none) (t e : TypeId) (x lo : Operand) (ho : o.op = .slice t x (some lo) none none) (g n c j : Nat) (hx : a.eval x = .slice (some ⟨g, 0, none⟩) n c) (hlo : a.eval lo = .int .i64 ((j : Nat) : Int)) (ht : P.underlying t = some (.slice e)) (hsz : (P.info? e).map (·.size) = some 1) (hj : j < c) (hjn : j ≤ n)
    (h : wpList P ops Q rest (a.put o.dst (.slice (some ⟨g, j, none⟩) (n - j) (c - j))) w) : wpList P ops Q (o :: rest) a w := by
  refine wpList_plain hgd fun K hK => ?_
  obtain ⟨i, hi, hs⟩ := Option.map_eq_some_iff.1 hsz
  have hel : P.elem t = e := by simp [Program.elem, ht]
  have hu : P.underlying t = some (.slice (P.elem t)) := by rw [hel]; exact ht
  have hr : (Instr.slice t (.slice (some ⟨g, 0, none⟩) n c) (some (.int .i64 (j : Int))) none none).run P w = .ok (.slice (some ⟨g, j, none⟩) (n - j) (c - j)) w := by
    rw [run_slice_l (ht := hu) (P := P) (w := w) (h0 := by omega) (h1 := by omega), hel]
    have ha : (⟨g, 0, none⟩ : Addr).add (j * 1) = ⟨g, j, none⟩ := by unfold Addr.add; split <;> simp_all
    simp [sizeOf, typeInfo, hi, hs, sliced, Result.andThen, show ¬ (c = j) by omega]
    simpa using ha
  have hsl := run_sliceAt_slice (P := P) (w := w) t (.slice (some ⟨g, 0, none⟩) n c) (some (.int .i64 (j : Int))) none none hu
  unfold Oper.wp execOp
  simp [ho, hx, hlo, hsl, hr]
  exact hK _ _ h
end
/-! ### The table -/
def zInode : List Int := List.replicate 24 0
def atI (l : List (List Int)) (n : Nat) : List Int := if n < l.length then l.getD n [] else zInode
def kOf (l : List (List Int)) (j : Nat) : Int := if lastK l j < 1 then 1 else lastK l j
def tableBytesTo (l : List (List Int)) (n : Nat) : List Int := ((List.range n).map fun j => inodeBytes (atI l j)).flatten
def tableBytes (l : List (List Int)) : List Int := tableBytesTo l ((lastOf l).toNat + 1)
def firstZero (l : List (List Int)) : Bool := decide (l.length = 0) || decide (l.getD 0 [] = zInode)
def allGood (l : List (List Int)) : Bool := l.all inodeGood
def tableGood (l : List (List Int)) : Bool := allGood l && (firstZero l && decide (lastOf l ≤ 1000))
theorem kOf_all (l : List (List Int)) : kOf l l.length = lastOf l := rfl
theorem kOf_zero (l : List (List Int)) : kOf l 0 = 1 := by
  unfold kOf lastK
  decide
theorem kOf_pos (l : List (List Int)) (j : Nat) : 1 ≤ kOf l j := by
  unfold kOf
  split <;> omega
theorem kOf_skip {l : List (List Int)} {j : Nat} (h : (l.getD j []).getD 0 0 = 0) : kOf l (j + 1) = kOf l j := by
  unfold kOf
  rw [show lastK l (j + 1) = lastK l j by rw [lastK, if_pos h]]
theorem kOf_use {l : List (List Int)} {j : Nat} (h : ¬ (l.getD j []).getD 0 0 = 0) : kOf l (j + 1) = max (kOf l j) (j : Int) := by
  have hr := lastK_range l j
  have e : lastK l (j + 1) = (j : Int) := by rw [lastK, if_neg h]
  unfold kOf
  rw [e]
  split <;> split <;> omega
theorem kOf_le (l : List (List Int)) (j : Nat) : kOf l j ≤ max 1 (j : Int) := by
  have hr := lastK_range l j
  unfold kOf
  split <;> omega
theorem good_zero : inodeGood zInode = true := by
  unfold inodeGood zInode
  simp
theorem atI_length {l : List (List Int)} (h : ∀ x ∈ l, x.length = 24) (n : Nat) : (atI l n).length = 24 := by
  unfold atI
  split
  · rename_i hn
    rw [List.getD_eq_getElem?_getD, List.getElem?_eq_getElem hn]
    exact h _ (List.getElem_mem hn)
  · simp [zInode]
theorem atI_good {l : List (List Int)} (h : allGood l = true) (n : Nat) : inodeGood (atI l n) = true := by
  unfold atI
  split
  · rename_i hn
    rw [List.getD_eq_getElem?_getD, List.getElem?_eq_getElem hn]
    exact List.all_eq_true.1 h _ (List.getElem_mem hn)
  · exact good_zero
theorem allGood_of {l : List (List Int)} (h : ∀ j, j < l.length → inodeGood (l.getD j []) = true) : allGood l = true := by
  unfold allGood
  rw [List.all_eq_true]
  intro x hx
  obtain ⟨j, hj, rfl⟩ := List.getElem_of_mem hx
  have := h j hj
  rw [List.getD_eq_getElem?_getD, List.getElem?_eq_getElem hj] at this
  exact this
theorem allGood_not {l : List (List Int)} {j : Nat} (hj : j < l.length) (h : inodeGood (l.getD j []) = false) : allGood l = false := by
  unfold allGood
  rw [List.all_eq_false]
  refine ⟨l[j], List.getElem_mem hj, ?_⟩
  rw [List.getD_eq_getElem?_getD, List.getElem?_eq_getElem hj] at h
  simpa using h
theorem tableBytesTo_succ (l : List (List Int)) (n : Nat) : tableBytesTo l (n + 1) = tableBytesTo l n ++ inodeBytes (atI l n) := by
  unfold tableBytesTo
  rw [List.range_succ, List.map_append, List.flatten_append]
  simp
theorem tableBytesTo_length {l : List (List Int)} (h : ∀ x ∈ l, x.length = 24) (n : Nat) : (tableBytesTo l n).length = 128 * n := by
  induction n with
  | zero => rfl
  | succ n ih =>
    rw [tableBytesTo_succ, List.length_append, ih, inodeBytes_length (atI_length h n)]
    omega
theorem bytes_zero : inodeBytes zInode = List.replicate 128 0 := by
  decide
/-- Behind the list's end a table has zeros. -/
theorem tableBytesTo_zeros (l : List (List Int)) (m : Nat) (h : l.length ≤ m) : ∀ d, tableBytesTo l (m + d) = tableBytesTo l m ++ List.replicate (128 * d) 0
  | 0 => by simp
  | d + 1 => by
    rw [show m + (d + 1) = (m + d) + 1 by omega, tableBytesTo_succ, tableBytesTo_zeros l m h d, show atI l (m + d) = zInode by unfold atI; rw [if_neg (by omega)], bytes_zero, List.append_assoc, List.replicate_append_replicate]
    congr 2
/-- A right inode whose kind is 0 is all zero. -/
theorem good_kind {x : List Int} (h : inodeGood x = true) : x.getD 0 0 = 0 ↔ x = zInode := by
  unfold inodeGood at h
  rw [Bool.or_eq_true] at h
  constructor
  · intro h0
    rcases h with h | h
    · exact of_decide_eq_true h
    · unfold inodeOk at h
      simp only [Bool.and_eq_true] at h
      have := rng_of h.1
      omega
  · intro h0
    rw [h0]
    rfl
/-! ### The marks -/
def mkRow (x : List Int) (k f : Nat) : List Int := (List.range' k f).map (fun (q : Nat) => (q : Int)) ++ x.drop f
theorem mkRow_zero (x : List Int) (k : Nat) : mkRow x k 0 = x := by simp [mkRow]
theorem mkRow_length (x : List Int) (k f : Nat) (h : f ≤ x.length) : (mkRow x k f).length = x.length := by
  simp [mkRow]
  omega
theorem mkRow_set {x : List Int} {k f : Nat} (h : f < x.length) : (mkRow x k f).set f ((k + f : Nat) : Int) = mkRow x k (f + 1) := by
  unfold mkRow
  rw [List.set_append_right _ _ (by simp), List.length_map, List.length_range', Nat.sub_self, List.drop_eq_getElem_cons h, List.set_cons_zero, List.range'_concat, List.map_append, List.append_assoc]
  simp
def marks (k n : Nat) : List (List Int) := (List.range n).map fun j => (List.range' (k + 24 * j) 24).map (fun (q : Nat) => (q : Int))
theorem marks_length (k n : Nat) : (marks k n).length = n := by simp [marks]
theorem mkRow_full {x : List Int} (h : x.length = 24) (k : Nat) : mkRow x k 24 = (List.range' k 24).map (fun (q : Nat) => (q : Int)) := by
  unfold mkRow
  rw [List.drop_eq_nil_of_le (by omega), List.append_nil]
theorem marks_getD (k n j f : Nat) (hj : j < n) (hf : f < 24) : ((marks k n).getD j []).getD f 0 = ((k + 24 * j + f : Nat) : Int) := by
  simp [marks, List.getD_eq_getElem?_getD, hj, hf]
theorem marks_succ (k j : Nat) : marks k (j + 1) = marks k j ++ [(List.range' (k + 24 * j) 24).map (fun (q : Nat) => (q : Int))] := by
  unfold marks
  rw [List.range_succ, List.map_append]
  rfl
/-- The round's row marked: one more of all. -/
theorem marks_next (l : List (List Int)) (k j : Nat) (hj : j < l.length) : (marks k j ++ l.drop j).set j ((List.range' (k + 24 * j) 24).map (fun (q : Nat) => (q : Int))) = marks k (j + 1) ++ l.drop (j + 1) := by
  rw [List.set_append_right _ _ (by rw [marks_length]; exact Nat.le_refl _), marks_length, Nat.sub_self, List.drop_eq_getElem_cons hj, List.set_cons_zero, marks_succ, List.append_assoc]
  rfl
end Go.Proofs.YtkghgjehjchajaaW.PrintTab2
