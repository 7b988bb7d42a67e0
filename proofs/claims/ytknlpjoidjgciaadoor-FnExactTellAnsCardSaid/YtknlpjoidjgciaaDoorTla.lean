/- TellAns: decimals and joined decimals. -/
import Derived.Test.YtknlpjoidjgciaaDoorPFnExactTellAnsx3
import Derived.Test.YtknlpjoidjgciaaDoorWHxS
import Derived.Lib.ItoaNum
import Derived.Lib.ItoaLen
import Derived.Lib.ItoaMem
import Derived.Lib.Join
namespace Go.Proofs.YtknlpjoidjgciaaDoor.PFnExactTellAns
open Go.RowKit Go.Proofs.YtknlpjoidjgciaaDoorW.PrintWords Go.Proofs.YtknlpjoidjgciaaDoorW.PrintLast Go.Proofs.YtknlpjoidjgciaaDoorW.PrintMore
open Go.Proofs.YtknlpjoidjgciaaDoorW Go.Proofs.YtknlpjoidjgciaaDoorW.PrintHand Go.Proofs.YtknlpjoidjgciaaDoorW.PrintHx
attribute [local go_sem] max2_int min2_int max_two min_two max_three min_three max_four min_four
set_option linter.unusedVariables false
set_option linter.unusedSimpArgs false

namespace Tl
theorem w64 {x : Int} (h0 : -9223372036854775808 ≤ x) (h1 : x ≤ 9223372036854775807) : wrap64 x = x := by unfold wrap64; omega
theorem w64n {n : Nat} (h : n < 9223372036854775807) : wrap64 ((n : Int) + 1) = ((n + 1 : Nat) : Int) := by unfold wrap64; omega
theorem sucK {n k : Nat} (h : n < k) : ∃ m, k = m + 1 := ⟨k - 1, by omega⟩
theorem rdN (xs : List Int) (i : Nat) : rd xs (i : Int) = xs.getD i 0 := by simp [rd]
theorem rd_some {xs : List Int} {i : Nat} (h : i < xs.length) : rd xs (i : Int) = xs[i] := by rw [rdN, List.getD_eq_getElem?_getD, List.getElem?_eq_getElem h]; rfl

theorem bext {x y : ByteArray} (h : x.data.toList = y.data.toList) : x = y := by
  cases x; cases y; simp only [ByteArray.mk.injEq]; exact Array.toList_inj.1 h
end Tl
def mkB (l : List UInt8) : ByteArray := ⟨l.toArray⟩
theorem mkB_cat (a b : List UInt8) : mkB a ++ mkB b = mkB (a ++ b) := Tl.bext (by simp [mkB])
theorem mkB_size (a : List UInt8) : (mkB a).size = a.length := by simp [mkB, ByteArray.size]
/-- a number's decimal -/
def decS (v : Int) : ByteArray := mkB (Lib.itoa v)
theorem decS_size (v : Int) (h0 : -9223372036854775808 ≤ v) (h1 : v ≤ 9223372036854775807) : (decS v).size ≤ 21 := by
  rw [decS, mkB_size]
  exact Lib.itoa_length_le v h0 h1
/-- numbers' decimals with colons between them -/
def joinS (ns : List Int) : ByteArray := mkB (Lib.join (ns.map Lib.itoa) [58])
theorem joinTail_snoc (sep : List UInt8) (r : List (List UInt8)) (x : List UInt8) : Lib.joinTail sep (r ++ [x]) = Lib.joinTail sep r ++ (sep ++ x) := by
  simp [Lib.joinTail]
theorem join_snoc (a : List UInt8) (r : List (List UInt8)) (x : List UInt8) (sep : List UInt8) : Lib.join (a :: r ++ [x]) sep = Lib.join (a :: r) sep ++ (sep ++ x) := by
  rw [List.cons_append, Lib.join_cons, Lib.join_cons, joinTail_snoc, List.append_assoc]
theorem joinS_one (v : Int) : joinS [v] = decS v := by
  unfold joinS decS
  rw [List.map_cons, List.map_nil, Lib.join_one]
theorem joinS_more (ns : List Int) (v : Int) (h : ns ≠ []) : joinS (ns ++ [v]) = (joinS ns ++ ⟨#[58]⟩) ++ decS v := by
  obtain ⟨a, r, rfl⟩ := List.exists_cons_of_ne_nil h
  have e : (⟨#[58]⟩ : ByteArray) = mkB [58] := rfl
  unfold joinS decS
  rw [e, mkB_cat, mkB_cat, List.map_append, List.map_cons, List.map_cons, List.map_nil, join_snoc, List.append_assoc]
theorem joinS_size (ns : List Int) (hn : ∀ v ∈ ns, -9223372036854775808 ≤ v ∧ v ≤ 9223372036854775807) : (joinS ns).size ≤ 22 * ns.length := by
  rw [joinS, mkB_size]
  have tail : ∀ r : List Int, (∀ v ∈ r, -9223372036854775808 ≤ v ∧ v ≤ 9223372036854775807) → (Lib.joinTail [58] (r.map Lib.itoa)).length ≤ 22 * r.length := by
    intro r
    induction r with
    | nil => intro _; simp [Lib.joinTail]
    | cons v r ih =>
      intro h
      have h1 := Lib.itoa_length_le v (h v (List.mem_cons_self ..)).1 (h v (List.mem_cons_self ..)).2
      have h2 := ih (fun x hx => h x (List.mem_cons_of_mem _ hx))
      simp only [Lib.joinTail, List.map_cons, List.flatten_cons, List.length_append, List.length_cons, List.length_nil] at h2 ⊢
      omega
  cases ns with
  | nil => simp [Lib.join, List.intercalate]
  | cons v r =>
    have h1 := Lib.itoa_length_le v (hn v (List.mem_cons_self ..)).1 (hn v (List.mem_cons_self ..)).2
    have h2 := tail r (fun x hx => hn x (List.mem_cons_of_mem _ hx))
    rw [List.map_cons, Lib.join_cons, List.length_append, List.length_cons]
    omega
/-! ### l15Dec -/
theorem dgt (d : Nat) (h : d < 10) : strOfNums [(IntKind.u64.wrap (48 + (d : Int))) % 256] = mkB [UInt8.ofNat (48 + d)] := by
  have e : (IntKind.u64.wrap (48 + (d : Int))) % 256 = ((48 + d : Nat) : Int) := by rw [IntKind.wrap_u64]; omega
  rw [e]
  rcases (by omega : d = 0 ∨ d = 1 ∨ d = 2 ∨ d = 3 ∨ d = 4 ∨ d = 5 ∨ d = 6 ∨ d = 7 ∨ d = 8 ∨ d = 9) with rfl | rfl | rfl | rfl | rfl | rfl | rfl | rfl | rfl | rfl <;> rfl
theorem dec_l0 (x0 : Int) (n : Nat) : ∀ (d u K : Nat) (R : List UInt8), u < 10 ^ d → d ≤ 30 → u < 18446744073709551616 → R.length + d ≤ 1000 →
    spec_l15Dec.l0 (K + d + 1) x0 (u : Int) (mkB (UInt8.ofNat (48 + u % 10) :: R)) = some (if x0 < 0 then mkB (45 :: (Lib.decDigits u ++ R)) else mkB (Lib.decDigits u ++ R))
  | d, u, K, R, h1, h2, h3, h4 => by
    rw [spec_l15Dec.l0.eq_2]
    by_cases c : u < 10
    · rw [if_neg (by omega), Lib.decDigits_one c, show u % 10 = u by omega]
      by_cases cn : x0 < 0
      · rw [if_pos cn, if_pos cn, if_pos (by rw [mkB_size]; simp; omega)]
        exact congrArg some (mkB_cat [45] _)
      · rw [if_neg cn, if_neg cn]
        rfl
    · cases d with
      | zero => omega
      | succ d =>
        have e1 : IntKind.u64.wrap (Int.tdiv (u : Int) 10) = ((u / 10 : Nat) : Int) := by
          rw [Int.tdiv_eq_ediv_of_nonneg (by omega), IntKind.wrap_u64]
          omega
        have e2 : Int.tmod ((u / 10 : Nat) : Int) 10 = ((u / 10 % 10 : Nat) : Int) := by
          rw [Int.tmod_eq_emod_of_nonneg (by omega)]
          omega
        have hd : (Lib.decDigits u) = Lib.decDigits (u / 10) ++ [UInt8.ofNat (48 + u % 10)] := by
          rw [Lib.decDigits, dif_neg c]
        rw [if_pos (by omega), Option.bind_some, e1, e2, dgt _ (by omega), if_pos (by rw [mkB_size, mkB_size]; simp; omega), mkB_cat, show K + (d + 1) = K + d + 1 by omega]
        rw [List.singleton_append, dec_l0 x0 n d (u / 10) K (UInt8.ofNat (48 + u % 10) :: R) (by rw [Nat.pow_succ] at h1; omega) (by omega) (by omega) (by simp; omega), hd]
        simp only [List.append_assoc, List.singleton_append]
theorem dec_f (v : Int) (h0 : -9223372036854775808 ≤ v) (h1 : v ≤ 9223372036854775807) : spec_l15Dec.f 40 v = some (decS v) := by
  unfold spec_l15Dec.f
  have key : ∀ (u : Nat), u < 10 ^ 20 → u < 18446744073709551616 → spec_l15Dec.j0 40 v (u : Int) = some (if v < 0 then mkB (45 :: Lib.decDigits u) else mkB (Lib.decDigits u)) := by
    intro u hu hu2
    rw [show (40 : Nat) = 39 + 1 from rfl, spec_l15Dec.j0.eq_2]
    have e2 : Int.tmod (u : Int) 10 = ((u % 10 : Nat) : Int) := by
      rw [Int.tmod_eq_emod_of_nonneg (by omega)]
      omega
    rw [e2, dgt _ (by omega)]
    have := dec_l0 v 0 20 u 18 [] hu (by omega) hu2 (by simp)
    simpa using this
  by_cases c : v < 0
  · have e : IntKind.u64.wrap (-(IntKind.u64.wrap v)) = ((v.natAbs : Nat) : Int) := by
      rw [IntKind.wrap_u64, IntKind.wrap_u64]
      omega
    rw [if_pos c, e, key _ (by omega) (by omega), if_pos c, decS, Lib.itoa, if_pos c]
  · have e : IntKind.u64.wrap v = ((v.toNat : Nat) : Int) := by
      rw [IntKind.wrap_u64]
      omega
    rw [if_neg c, e, key _ (by omega) (by omega), if_neg c, decS, Lib.itoa, if_neg c]
/-- l15Dec -/
theorem Dec_told (v : Int) (h0 : -9223372036854775808 ≤ v) (h1 : v ≤ 9223372036854775807) (w : World) : Calls Tryd.prog 44 #[.int .i64 v] w fun e w' => e = .returned (.string (decS v)) ∧ Below w.heap.size w w' :=
  spec_l15Dec.calls 40 v (decS v) w (dec_f v h0 h1)
/-! ### Strings put together -/
section
variable {P : Program} {ops : Array Oper} {rest : List Oper} {o : Oper} {a : Act} {w : World} {Q : Exit → Act → World → Prop}
theorem ex_cat (hgd : o.guard = none) (t : TypeId) (x y : Operand) (ho : o.op = .binOp .add t x y t) (p q : ByteArray) (hx : a.eval x = .string p) (hy : a.eval y = .string q) (hs : p.size + q.size ≤ 9223372036854775807)
    (h : ∀ s : ByteArray, Aside0 (s = p ++ q) → wpList P ops Q rest (a.put o.dst (.string s)) w) : wpList P ops Q (o :: rest) a w := by
  refine wpList_plain hgd fun K hK => ?_
  have hr : (binOp .add t (.string p) (.string q)).run P w = .ok (.string (p ++ q)) w := by
    simp [binOp, Op.stringOp]
    omega
  have hg : (eqGuard .add t x y (.string p) (.string q)).run P w = .ok () w := by simp [eqGuard]
  unfold Oper.wp execOp
  simp only [ho, hx, hy, Sem.run_bind, hg, hr, Result.andThen_ok, Sem.run_pure, Oper.upon_value]
  exact hK _ _ (h _ ⟨rfl⟩)
end
set_option maxHeartbeats 8000000 in
set_option maxRecDepth 100000 in
theorem Join_told (A0 : Option Addr) (c0 : Nat) (ns : List Int) (w : World) (hr0 : Kd.C (Kd.int .i64) w A0 ns.length ns) (hl : ns.length ≤ 100) (hn : ∀ v ∈ ns, -9223372036854775808 ≤ v ∧ v ≤ 9223372036854775807) : Calls Tryd.prog 46 #[.slice A0 ns.length c0] w fun e w' => e = .returned (.string (joinS ns)) ∧ Below w.heap.size w w' := by
  have HR0 := Aside0.mk hr0
  have HL := Aside0.mk hl
  have HN := Aside0.mk hn
  clear hr0 hl hn
  go_enter Tryd.func46, Tryd.ntmps46
  go_wp2
  (try simp only [Act.put, List.setIfInBounds_toArray, List.set_cons_succ, List.set_cons_zero])
  go_loopg [3, 8] ns.length (fun kq v3 v8 wr => ∃ (i : Nat) (s : ByteArray), v8 = .int .i64 (i : Int) ∧ v3 = .string s ∧ Aside0 (kq + i = ns.length) ∧ Aside0 (s = joinS (ns.take i)) ∧ Aside0 (Below w.heap.size w wr))
  case atStart => exact ⟨0, _, rfl, rfl, ⟨by simp⟩, ⟨by simp [joinS, Lib.join, List.intercalate, mkB]⟩, ⟨Below.refl _ _⟩⟩
  case round =>
    obtain ⟨i, s, rfl, rfl, hki, HS, HB⟩ := hrel
    obtain ⟨wn, rfl⟩ : ∃ x, x = wr := ⟨_, rfl⟩
    have SZ : Aside0 (s.size ≤ 2200) := ⟨by rw [HS.out]; have := joinS_size (ns.take i) (fun v hv => HN.out v (List.mem_of_mem_take hv)); have := HL.out; have := List.length_take_le i ns; rw [List.length_take] at *; omega⟩
    by_cases ci : i < ns.length
    case pos =>
      have ci0 : decide ((i : Int) < (ns.length : Int)) = true := decide_eq_true (by omega)
      have ci1 : decide (i < ns.length) = true := decide_eq_true ci
      have ci2 : ((i : Int) < (ns.length : Int)) = True := eq_true (by omega)
      have ci3 : (0 ≤ (i : Int)) = True := eq_true (by omega)
      have ci4 : (i < ns.length) = True := eq_true ci
      have CI := Aside0.mk ci
      clear ci
      have hw_ : wrap64 ((i : Int) + 1) = ((i + 1 : Nat) : Int) := by (have := CI.out; have := HL.out; unfold wrap64; omega)
      have hCR : Kd.C (Kd.int .i64) wn A0 ns.length ns := Kd.C_below HR0.out HB.out
      obtain ⟨ad, ea, hx⟩ := Kd.at_int hCR (i : Int) (by omega) (by have := CI.out; omega)
      cases ea
      obtain ⟨x, hxe⟩ : ∃ x, x = rd ns (i : Int) := ⟨_, rfl⟩
      rw [Int.toNat_natCast, ← hxe] at hx
      have HX : Aside0 (x = ns[i]'CI.out) := ⟨by rw [hxe, Tl.rd_some CI.out]⟩
      have RX : Aside0 (-9223372036854775808 ≤ x ∧ x ≤ 9223372036854775807) := ⟨by rw [HX.out]; exact HN.out _ (List.getElem_mem _)⟩
      clear hxe hCR
      by_cases c0 : 0 < i
      case pos =>
        have c00 : decide (0 < (i : Int)) = true := decide_eq_true (by omega)
        have c01 : decide (0 < i) = true := decide_eq_true c0
        have C0 := Aside0.mk c0
        clear c0
        go_wp2_with (first | ((with_reducible refine gate_dst (N := 16) rfl ?_); refine ex_cat rfl 9 (.tmp 15) (_) rfl (s) (⟨#[58]⟩) rfl rfl (by have := SZ.out; show s.size + 1 ≤ _; omega) ?_; intro s2 hs2; have SZ2 : Aside0 (s2.size = s.size + 1) := ⟨by rw [hs2.out, ByteArray.size_append]; rfl⟩) | ((with_reducible refine gate_dst (N := 19) rfl ?_); refine goesL_ (some 19) rfl rfl Tryd.func44 (by kernel_rfl) rfl #[.int .i64 x] rfl (by (try simp only [List.map_toArray, List.map_cons, List.map_nil]); first | done | rfl) ?_; refine (Dec_told x RX.out.1 RX.out.2 _).mono ?_; rintro e_ wm ⟨rfl, b_⟩; refine ⟨_, rfl, ?_⟩; have HB2 := Aside0.mk (below_then HB.out HB.out.size b_); clear b_) | ((with_reducible refine gate_dst (N := 20) rfl ?_); refine ex_cat rfl 9 (.tmp 17) (.tmp 19) rfl (s2) (decS x) rfl rfl (by have := decS_size x RX.out.1 RX.out.2; have := SZ.out; have := SZ2.out; omega) ?_; intro s3 hs3))
        cases gk with
        | zero => exact absurd CI.out (by have := hki.out; omega)
        | succ gk =>
          go_roundg gk
          case measure => omega
          case rel => exact ⟨i + 1, _, by rw [hw_], rfl, ⟨by have := hki.out; omega⟩, ⟨by (rw [hs3.out, hs2.out, HS.out, HX.out, List.take_succ_eq_append_getElem CI.out]; exact (joinS_more _ _ (by (intro h_; have h2_ := congrArg List.length h_; rw [List.length_take, List.length_nil] at h2_; have := C0.out; have := CI.out; omega))).symm)⟩, HB2⟩
      case neg =>
        have c00 : decide (0 < (i : Int)) = false := decide_eq_false (by omega)
        have c01 : decide (0 < i) = false := decide_eq_false c0
        have C0 : Aside0 (i = 0) := ⟨by omega⟩
        clear c0
        have SZ2 : Aside0 (s.size ≤ 2200) := SZ
        go_wp2_with (first | ((with_reducible refine gate_dst (N := 19) rfl ?_); refine goesL_ (some 19) rfl rfl Tryd.func44 (by kernel_rfl) rfl #[.int .i64 x] rfl (by (try simp only [List.map_toArray, List.map_cons, List.map_nil]); first | done | rfl) ?_; refine (Dec_told x RX.out.1 RX.out.2 _).mono ?_; rintro e_ wm ⟨rfl, b_⟩; refine ⟨_, rfl, ?_⟩; have HB2 := Aside0.mk (below_then HB.out HB.out.size b_); clear b_) | ((with_reducible refine gate_dst (N := 20) rfl ?_); refine ex_cat rfl 9 (.tmp 17) (.tmp 19) rfl (s) (decS x) rfl rfl (by have := decS_size x RX.out.1 RX.out.2; have := SZ.out; have := SZ2.out; omega) ?_; intro s3 hs3))
        cases gk with
        | zero => exact absurd CI.out (by have := hki.out; omega)
        | succ gk =>
          go_roundg gk
          case measure => omega
          case rel => exact ⟨i + 1, _, by rw [hw_], rfl, ⟨by have := hki.out; omega⟩, ⟨by (have e0 := C0.out; subst e0; rw [hs3.out, HS.out, HX.out, List.take_succ_eq_append_getElem CI.out]; rw [List.take_zero, List.nil_append, joinS_one]; exact Tl.bext (by simp [joinS, Lib.join, List.intercalate, mkB]))⟩, HB2⟩
    case neg =>
      have ci0 : decide ((i : Int) < (ns.length : Int)) = false := decide_eq_false (by omega)
      have ci1 : decide (i < ns.length) = false := decide_eq_false ci
      have e_ : s = joinS ns := by (rw [HS.out, List.take_of_length_le (by omega)])
      subst e_
      clear ci
      go_wp2
      go_ret
      exact ⟨rfl, HB.out⟩
end Go.Proofs.YtknlpjoidjgciaaDoor.PFnExactTellAns
