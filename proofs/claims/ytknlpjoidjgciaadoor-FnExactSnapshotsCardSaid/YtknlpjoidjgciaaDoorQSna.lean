/- Snapshots: rows of snapshots compared, marked, held. -/
import Derived.OrdersHeld
import Derived.Test.YtknlpjoidjgciaaDoorQPFnExactSnapshotsx15
import Derived.Test.YtknlpjoidjgciaaDoorQW2
import Derived.Test.YtknlpjoidjgciaaDoorQW1
namespace Go.Proofs.YtknlpjoidjgciaaDoor.PFnExactSnapshots
open Go Go.RowKit Go.Proofs.YtknlpjoidjgciaaDoorW.PrintWords Go.Proofs.YtknlpjoidjgciaaDoorW.PrintLast Go.Proofs.YtknlpjoidjgciaaDoorW.PrintMore Go.Proofs.YtknlpjoidjgciaaDoorW.PrintHand Go.Proofs.YtknlpjoidjgciaaDoorW.PrintHx Go.Proofs.YtknlpjoidjgciaaDoorW.PrintLe Go.Proofs.YtknlpjoidjgciaaDoorW.PrintIno Go.Proofs.YtknlpjoidjgciaaDoorW.PrintDec Go.Proofs.YtknlpjoidjgciaaDoorW.PrintFsi Go.Proofs.YtknlpjoidjgciaaDoorW.PrintFsb Go.Proofs.YtknlpjoidjgciaaDoorW.PrintFsd Go.Proofs.YtknlpjoidjgciaaDoorW.PrintCrc Go.Proofs.YtknlpjoidjgciaaDoorW.PrintGrow Go.Proofs.YtknlpjoidjgciaaDoorW.PrintSnp Go.Proofs.YtknlpjoidjgciaaDoorW.PrintSnd Go.Proofs.YtknlpjoidjgciaaDoorW.PrintRws Go.Proofs.YtknlpjoidjgciaaDoorW
attribute [local go_sem] max2_int min2_int max_two min_two max_three min_three max_four min_four
set_option linter.unusedVariables false
set_option linter.unusedSimpArgs false
theorem w64 {x : Int} (h0 : -9223372036854775808 ≤ x) (h1 : x ≤ 9223372036854775807) : wrap64 x = x := by unfold wrap64; omega
theorem w64n {n : Nat} (h : n < 9223372036854775807) : wrap64 ((n : Int) + 1) = ((n + 1 : Nat) : Int) := by unfold wrap64; omega
theorem sucK {n k : Nat} (h : n < k) : ∃ m, k = m + 1 := ⟨k - 1, by omega⟩
theorem rdN (xs : List Int) (i : Nat) : rd xs (i : Int) = xs.getD i 0 := by simp [rd]
theorem rd_some {xs : List Int} {i : Nat} (h : i < xs.length) : rd xs (i : Int) = xs[i] := by rw [rdN, List.getD_eq_getElem?_getD, List.getElem?_eq_getElem h]; rfl
theorem mtx_l0 : ∀ (d k : Nat) (m : Nat) (x : ByteArray), m < 2 ^ d → d < k → d ≤ 60 → x.size + d < 1000 → ∃ t, laws_markText.l0 k (m : Int) x = some t
  | 0, k, m, x, h1, h2, h3, h4 => by
    obtain ⟨k, rfl⟩ := sucK h2
    simp only [laws_markText.l0]
    rw [if_neg (by omega), if_pos (by omega)]
    exact ⟨_, rfl⟩
  | d + 1, k, m, x, h1, h2, h3, h4 => by
    obtain ⟨k, rfl⟩ := sucK h2
    simp only [laws_markText.l0]
    by_cases h : (m : Int) > 0
    · have e : wrap64 (Int.tdiv (m : Int) 10) = ((m / 10 : Nat) : Int) := by
        have h5 : (2 : Nat) ^ (d + 1) ≤ 2 ^ 60 := Nat.pow_le_pow_right (by omega) h3
        rw [show Int.tdiv (m : Int) 10 = ((m / 10 : Nat) : Int) from rfl]
        unfold wrap64
        omega
      have h6 : m / 10 < 2 ^ d := by have : 2 ^ (d + 1) = 2 * 2 ^ d := by rw [Nat.pow_succ]; omega
                                     omega
      have h7 : ∀ v : Int, (strOfNums [v]).size = 1 := fun v => by rw [Go.Proofs.YtknlpjoidjgciaaDoorW.PrintSnd.strOf_size]; rfl
      rw [if_pos h]
      simp only [Option.bind_some]
      rw [if_pos (by rw [h7]; omega), e]
      exact mtx_l0 d k (m / 10) _ h6 (by omega) (by omega) (by rw [ByteArray.size_append, h7]; omega)
    · rw [if_neg h, if_pos (by omega)]
      exact ⟨_, rfl⟩
theorem mtx_f (m : Nat) (h : m < 2 ^ 60) : ∃ t, laws_markText.f 61 (m : Int) = some t := by
  unfold laws_markText.f
  split
  · exact ⟨_, rfl⟩
  · exact mtx_l0 60 61 m _ h (by omega) (by omega) (by decide)
def mT (m : Nat) : ByteArray := (laws_markText.f 61 (m : Int)).getD ByteArray.empty
theorem mT_f (m k : Nat) (h : m < 2 ^ 60) (hk : 61 ≤ k) : laws_markText.f k (m : Int) = some (mT m) := by
  obtain ⟨t, ht⟩ := mtx_f m h
  have e : mT m = t := by unfold mT; rw [ht]; rfl
  rw [e]
  obtain ⟨j, rfl⟩ : ∃ j, k = 61 + j := ⟨k - 61, by omega⟩
  clear hk e
  induction j with
  | zero => exact ht
  | succ j ih => exact laws_markText.mono _ _ _ ih
structure Sn where
  x : Int
  s : ByteArray
  p : Int
  q : Int
  r : List Int
def Sn.c (z : Sn) : List Value := snapC z.x z.s z.p z.q z.r
theorem snapC_len15 {x : Int} {s : ByteArray} {p q : Int} {r : List Int} (h : (snapC x s p q r).length = 19) : r.length = 15 := by
  simp [snapC, nums] at h
  omega
theorem map_getD (L : List Sn) (j : Nat) (h : j < L.length) : (L.map Sn.c).getD j [] = Sn.c L[j] := by
  simp [List.getD_eq_getElem?_getD, List.getElem?_eq_getElem h]
def mkCell (kk i : Nat) : Value := if i = 1 then .string (mT (kk + 1)) else .int .i64 ((kk + i : Nat) : Int)
theorem mkCell_int {kk i : Nat} (h : i ≠ 1) : mkCell kk i = .int .i64 ((kk + i : Nat) : Int) := if_neg h
theorem mkCell_str (kk : Nat) : mkCell kk 1 = .string (mT (kk + 1)) := if_pos rfl
def mkRowC (x : List Value) (kk f : Nat) : List Value := (List.range f).map (mkCell kk) ++ x.drop f
theorem mkRowC_zero (x : List Value) (kk : Nat) : mkRowC x kk 0 = x := by simp [mkRowC]
theorem mkRowC_set {x : List Value} {kk f : Nat} (h : f < x.length) : (mkRowC x kk f).set f (mkCell kk f) = mkRowC x kk (f + 1) := by
  unfold mkRowC
  rw [List.set_append_right _ _ (by simp), List.length_map, List.length_range, Nat.sub_self, List.drop_eq_getElem_cons h, List.set_cons_zero, List.range_succ, List.map_append]
  simp
theorem mkRowC_full {x : List Value} (h : x.length = 19) (kk : Nat) : mkRowC x kk 19 = (List.range 19).map (mkCell kk) := by
  unfold mkRowC
  rw [List.drop_eq_nil_of_le (by omega), List.append_nil]
def marksC (n : Nat) : List (List Value) := (List.range n).map fun j => (List.range 19).map (mkCell (1 + 19 * j))
theorem marksC_length (n : Nat) : (marksC n).length = n := by simp [marksC]
theorem marksC_next (l : List (List Value)) (j : Nat) (hj : j < l.length) : (marksC j ++ l.drop j).set j ((List.range 19).map (mkCell (1 + 19 * j))) = marksC (j + 1) ++ l.drop (j + 1) := by
  rw [List.set_append_right _ _ (by rw [marksC_length]; exact Nat.le_refl _), marksC_length, Nat.sub_self, List.drop_eq_getElem_cons hj, List.set_cons_zero]
  unfold marksC
  rw [show List.range (j + 1) = List.range j ++ [j] from List.range_succ, List.map_append, List.map_cons, List.map_nil, List.append_assoc]
  rfl
theorem marksC_at (n j i : Nat) (hj : j < n) (hi : i < 19) : ((marksC n).getD j [])[i]? = some (mkCell (1 + 19 * j) i) := by
  simp [marksC, List.getD_eq_getElem?_getD, hj, hi]
theorem mkc_base {b : List (List Value)} {x : List Value} {j : Nat} (kk : Nat) (hj : j < b.length) (hx : x = b.getD j []) : b.set j (mkRowC x kk 0) = b := by
  rw [mkRowC_zero, hx, List.getD_eq_getElem?_getD, List.getElem?_eq_getElem hj]
  simp
theorem mkc_step {b : List (List Value)} {x : List Value} {j kk f : Nat} {v : Value} (hj : j < b.length) (hf : f < x.length) (hv : v = mkCell kk f) : (b.set j (mkRowC x kk f)).set j (((b.set j (mkRowC x kk f)).getD j []).set f v) = b.set j (mkRowC x kk (f + 1)) := by
  subst hv
  have e : (b.set j (mkRowC x kk f)).getD j [] = mkRowC x kk f := by
    rw [List.getD_eq_getElem?_getD, List.getElem?_set_self hj]
    rfl
  rw [e, mkRowC_set hf, List.set_set]
theorem cells_len {n : Nat} {W : World} {A : Option Addr} {xs : List (List Value)} (h : Kd.C (cellsK n) W A xs.length xs) : ∀ x ∈ xs, x.length = n := by
  intro x hx
  obtain ⟨j, hj, rfl⟩ := List.getElem_of_mem hx
  obtain ⟨_, _, h1, _⟩ := cl_at h j hj
  rw [List.getD_eq_getElem?_getD, List.getElem?_eq_getElem hj] at h1
  exact h1
theorem markText_told (m : Nat) (h : m ≤ 30000000) (w : World) : Calls Tryd.prog 60 #[.int .i64 ((m : Nat) : Int)] w fun e w' => e = .returned (.string (mT m)) ∧ Below w.heap.size w w' :=
  laws_markText.calls 61 m (mT m) w (mT_f m 61 (by omega) (Nat.le_refl _))
section
variable {P : Program} {ops : Array Oper} {o : Oper} {a : Act} {w : World} {Q : Exit → Act → World → Prop} {md : Region.Mode} {S : World → Prop}
theorem onlyH (i : Nat) {fuel : Nat} {listed : Array Bool} (hr : Region.ready md ops listed = [i])
    (h : wpOp P ops Q i (fun a' w' => S w' ∧ wpAnyH P md ops Q S fuel (listed.setIfInBounds i true) a' w') a w) : wpAnyH P md ops Q S (fuel + 1) listed a w :=
  wpAnyH_all hr (by simp) (fun j hj => by obtain rfl := List.mem_singleton.1 hj; exact h)
theorem op_call {i : Nat} (hi : ops[i]? = some o) (hgd : o.guard = none) {K : Act → World → Prop} {f : FuncId} {fn : Func} {ags : Array Operand} {ts : Array TypeId} (hf : P.funcs[f]? = some fn) (hname : (fn.name == "runtime.NumGoroutine") = false) (hb : fn.body.isSome = true)
    (hop : o.op = .call { callee := .value (.func f), args := ags, argTypes := ts }) (args : Array Value) (hargs : ags.map a.eval = args)
    (h : Calls P f args w fun e w' => ∃ v, e = .returned v ∧ K (a.put o.dst v) w') : wpOp P ops Q i K a w := by
  unfold wpOp
  simp only [hi]
  have hw : Region.wanted o (yielded ops a.tmps) = true := by simp [Region.wanted, hgd]
  rw [if_pos hw]
  refine .inl ?_
  have he := PrintLast.enters_ hf hname hb args w
  have hrun : (execOp a.eval o).run P w = .ok (.enter f args) w := by
    unfold execOp
    simp [hop, resolve, Act.eval, Deferred.ofValue, invoke, hargs, he]
  unfold Oper.wp
  rw [hrun, Oper.upon_enter]
  refine h.mono fun e w'' hh => ?_
  obtain ⟨v, rfl, hk⟩ := hh
  exact hk
theorem ch_ldat {t : TypeId} {x : Operand} {ad : Addr} {v : Value} {d : TypeDesc} (hv : w.cell? ad = some v) (ho : o.op = .load t x := by rfl) (hx : a.eval x = .pointer (some ad) := by rfl) (hu : P.underlying t = some d := by rfl) (hd : (match d with | .struct _ | .array _ _ => true | _ => false) = false := by rfl) : (execOp a.eval o).run P w = .ok (.value v) w := by
  have hagg : (isAgg t).run P w = .ok false w := by
    unfold isAgg
    rw [Sem.run_bind, run_underlying hu w]
    cases d <;> simp_all
  have h : (loadVar t ad).run P w = .ok v w := by
    unfold loadVar
    rw [Sem.run_bind, hagg]
    simp [hv]
  unfold execOp
  simp only [ho, hx, Instr.loadAt, Instr.sureAddr, Sem.run_bind, Sem.run_pure, Result.andThen_ok, h]
end
set_option maxHeartbeats 8000000 in
set_option maxRecDepth 100000 in
theorem eqSnapS_told (A0 : Option Addr) (c0 : Nat) (A1 : Option Addr) (c1 : Nat) (L : List Sn) (w : World) (hr0 : Kd.C (cellsK 19) w A0 L.length (L.map Sn.c)) (hr1 : Kd.C (cellsK 19) w A1 L.length (L.map Sn.c)) :
    Calls Tryd.prog 39 #[.slice A0 L.length c0, .slice A1 L.length c1] w fun e w' => e = .returned (.bool true) ∧ Below w.heap.size w w' := by
  have HR0 := Aside0.mk hr0
  have HR1 := Aside0.mk hr1
  have HM := Aside0.mk (show L.length ≤ 9223372036854775807 from hr0.2.1)
  clear hr0 hr1
  have hn_ : ((L.length : Int) != (L.length : Int)) = false := by simp
  go_enter Tryd.func39, Tryd.ntmps39
  go_wp2
  go_loopw [5] (fun v5 wr => ∃ j : Nat, v5 = .int .i64 (j : Int) ∧ Aside0 (j ≤ L.length) ∧ Aside0 (Below w.heap.size w wr)) (fun v5 _ => L.length - (intOf v5).toNat)
  case atStart => exact ⟨0, rfl, ⟨Nat.zero_le _⟩, ⟨Below.refl _ _⟩⟩
  case round =>
    obtain ⟨j, rfl, hj, HB⟩ := hrel
    by_cases c9 : j < L.length
    · have c9b0 : decide ((j : Int) < (L.length : Int)) = true := decide_eq_true (by omega)
      have c9b1 : decide (j < L.length) = true := decide_eq_true c9
      obtain ⟨ad, ea, hl, hc⟩ := cl_at (Kd.C_below HR0.out HB.out) j c9
      subst ea
      obtain ⟨ad1, ea1, hl1, hc1⟩ := cl_at (Kd.C_below HR1.out HB.out) j c9
      subst ea1
      rw [map_getD L j c9] at hl hc hc1
      obtain ⟨⟨x, s, p, q, r⟩, hx⟩ : ∃ x, x = L[j] := ⟨_, rfl⟩
      rw [← hx] at hl hc hc1
      have hl' : (snapC x s p q r).length = 19 := hl
      have HC : Aside0 (∀ i u, (snapC x s p q r)[i]? = some u → wr.cell? (ad.add (j * 19 + i)) = some u) := ⟨hc⟩
      have HC1 : Aside0 (∀ i u, (snapC x s p q r)[i]? = some u → wr.cell? (ad1.add (j * 19 + i)) = some u) := ⟨hc1⟩
      have HL := Aside0.mk hl'
      have NR := Aside0.mk (snapC_len15 hl')
      clear hx hl hc hc1 hl1 hl'
      have q3 : ((j : Int) < (L.length : Int)) = True := eq_true (by omega)
      have q4 : (0 ≤ (j : Int)) = True := eq_true (by omega)
      have q5 : (j < L.length) = True := eq_true c9
      have C9 := Aside0.mk c9
      clear c9
      go_wp2
      refine PrintQTail.wp_region_quiet_tail 8 (by kernel_rfl) (by kernel_rfl) ?_
      simp only [List.take_succ_cons, List.take_zero, List.drop_succ_cons, List.drop_zero]
      quiet_step (fail)
      quiet_step (fail)
      quiet_step (fail)
      refine quiet_load_c rfl 131 (.tmp 19) rfl (ad.add (j * 19)) rfl (snapC x s p q r) 19 Tryd.underlying131 rfl (by kernel_rfl) HL.out (fun i u hi => by rw [Addr.add_add]; exact HC.out i u hi) ?_
      quiet_step (fail)
      quiet_step (fail)
      quiet_step (fail)
      refine quiet_load_c rfl 131 (.tmp 23) rfl (ad1.add (j * 19)) rfl (snapC x s p q r) 19 Tryd.underlying131 rfl (by kernel_rfl) HL.out (fun i u hi => by rw [Addr.add_add]; exact HC1.out i u hi) ?_
      refine wpQuiet_nil ?_
      intro w_ hw_
      obtain ⟨nq, rfl⟩ := hw_
      go_wp2_with (first | ((with_reducible refine gate_dst (N := 25) rfl ?_); refine goesL_ (some 25) rfl rfl Tryd.func83 (by kernel_rfl) rfl #[.agg (snapC x s p q r).toArray, .agg (snapC x s p q r).toArray] rfl (by (try simp only [List.map_toArray, List.map_cons, List.map_nil]); first | done | rfl) ?_; refine (laws_eqSnap.calls x s p q r NR.out _).mono ?_; rintro e_ w2 ⟨rfl, b2⟩; refine ⟨_, rfl, ?_⟩; have HB4 := Aside0.mk (below_then (pw_below_drewN HB.out nq) (pw_below_drewN HB.out nq).size b2); clear b2 HB))
      go_roundw
      case rel => exact ⟨j + 1, by rw [show wrap64 ((j : Int) + 1) = ((j + 1 : Nat) : Int) by (have := HM.out; have := C9.out; unfold wrap64; omega)], ⟨by have := C9.out; omega⟩, HB4⟩
      case measure =>
        rw [show wrap64 ((j : Int) + 1) = ((j + 1 : Nat) : Int) by (have := HM.out; have := C9.out; unfold wrap64; omega)]
        simp only [intOf, Int.toNat_natCast]
        have := C9.out
        omega
    · have c9b0 : decide ((j : Int) < (L.length : Int)) = false := decide_eq_false (by omega)
      have c9b1 : decide (j < L.length) = false := decide_eq_false c9
      go_wp2
      go_ret
      exact ⟨rfl, HB.out⟩
end Go.Proofs.YtknlpjoidjgciaaDoor.PFnExactSnapshots
