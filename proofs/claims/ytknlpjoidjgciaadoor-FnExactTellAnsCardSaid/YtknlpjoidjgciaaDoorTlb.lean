/- TellAns: words. -/
import Derived.Test.YtknlpjoidjgciaaDoorTla
import Derived.OrdersHeld
namespace Go.Proofs.YtknlpjoidjgciaaDoor.PFnExactTellAns
open Go.RowKit Go.Proofs.YtknlpjoidjgciaaDoorW.PrintWords Go.Proofs.YtknlpjoidjgciaaDoorW.PrintLast Go.Proofs.YtknlpjoidjgciaaDoorW.PrintMore
open Go.Proofs.YtknlpjoidjgciaaDoorW Go.Proofs.YtknlpjoidjgciaaDoorW.PrintHand Go.Proofs.YtknlpjoidjgciaaDoorW.PrintHx
attribute [local go_sem] max2_int min2_int max_two min_two max_three min_three max_four min_four
set_option linter.unusedVariables false
set_option linter.unusedSimpArgs false

def hexS : ByteArray := ⟨#[48, 49, 50, 51, 52, 53, 54, 55, 56, 57, 97, 98, 99, 100, 101, 102]⟩
def encI (x : Int) : List Int := if 33 ≤ x ∧ x ≤ 126 ∧ ¬ x = 37 ∧ ¬ x = 58 ∧ ¬ x = 45 then [x] else [37, bt hexS (x / 16), bt hexS (x % 16)]
def wordL (s : ByteArray) (n : Nat) : List Int := ((List.range n).map (fun i : Nat => encI (bt s (i : Int)))).flatten
def wordS (s : ByteArray) : ByteArray := if s.toList = ([] : List UInt8) then ⟨#[45]⟩ else strOfNums (wordL s s.size)
theorem wordL_succ (s : ByteArray) (n : Nat) : wordL s (n + 1) = wordL s n ++ encI (bt s (n : Int)) := by
  unfold wordL
  rw [List.range_succ, List.map_append, List.flatten_append]
  simp
theorem wordL_le (s : ByteArray) : ∀ n, (wordL s n).length ≤ 3 * n
  | 0 => by simp [wordL]
  | n + 1 => by
    rw [wordL_succ, List.length_append]
    have := wordL_le s n
    have : (encI (bt s (n : Int))).length ≤ 3 := by unfold encI; split <;> simp
    omega
theorem spw (x : Int) : (decide (33 ≤ x) = true ∧ decide (x ≤ 126) = true ∧ (x != 37) = true ∧ (x != 58) = true ∧ (x != 45) = true ∧ encI x = [x]) ∨
    ((decide (33 ≤ x) = false ∨ (decide (33 ≤ x) = true ∧ decide (x ≤ 126) = false) ∨ (decide (33 ≤ x) = true ∧ decide (x ≤ 126) = true ∧ (x != 37) = false) ∨ (decide (33 ≤ x) = true ∧ decide (x ≤ 126) = true ∧ (x != 37) = true ∧ (x != 58) = false) ∨ (decide (33 ≤ x) = true ∧ decide (x ≤ 126) = true ∧ (x != 37) = true ∧ (x != 58) = true ∧ (x != 45) = false)) ∧ encI x = [37, bt hexS (x / 16), bt hexS (x % 16)]) := by
  by_cases a : 33 ≤ x
  case neg => exact .inr ⟨.inl (decide_eq_false a), if_neg (fun h => a h.1)⟩
  by_cases b : x ≤ 126
  case neg => exact .inr ⟨.inr (.inl ⟨decide_eq_true a, decide_eq_false b⟩), if_neg (fun h => b h.2.1)⟩
  by_cases c : x = 37
  case pos => exact .inr ⟨.inr (.inr (.inl ⟨decide_eq_true a, decide_eq_true b, by simp [c]⟩)), if_neg (fun h => h.2.2.1 c)⟩
  by_cases d : x = 58
  case pos => exact .inr ⟨.inr (.inr (.inr (.inl ⟨decide_eq_true a, decide_eq_true b, by simp [c], by simp [d]⟩))), if_neg (fun h => h.2.2.2.1 d)⟩
  by_cases e : x = 45
  case pos => exact .inr ⟨.inr (.inr (.inr (.inr ⟨decide_eq_true a, decide_eq_true b, by simp [c], by simp [d], by simp [e]⟩))), if_neg (fun h => h.2.2.2.2 e)⟩
  exact .inl ⟨decide_eq_true a, decide_eq_true b, by simp [c], by simp [d], by simp [e], if_pos ⟨a, b, c, d, e⟩⟩
section
variable {P : Program} {ops : Array Oper} {rest : List Oper} {o : Oper} {a : Act} {w w1 : World} {Q : Exit → Act → World → Prop} {K : Act → World → Prop}
theorem ch_byte {t : TypeId} (x i : Operand) (ho : o.op = .index t x i) (hu : P.underlying t = some .string) {k : IntKind} (s : ByteArray) (n : Int) (hx : a.eval x = .string s) (hi : a.eval i = .int k n) (h0 : 0 ≤ n) (h1 : n < (s.size : Int)) : (execOp a.eval o).run P w = .ok (.value (.int .u8 (bt s n))) w := by
  have hn : n.toNat < s.size := by omega
  have hb := bt_at s n hn
  have hg : s[n.toNat]? = some (s[n.toNat]'hn) := getElem?_pos s n.toNat hn
  unfold execOp
  rw [← hb]
  simp [ho, hx, hi, Instr.index, run_underlying hu, asIntOf, h0, h1, hn, hg]
theorem reps3 (w : World) (b : Nat) (ok : Nat → Prop) (x y z : Int) : Reps ((Kd.int .u8).M w b ok) 1 [x, y, z] [.int .u8 x, .int .u8 y, .int .u8 z] :=
  (((Reps.none ((Kd.int .u8).M w b ok) 1).snoc (p := x) (c := [.int .u8 x]) rfl rfl).snoc (p := y) (c := [.int .u8 y]) rfl rfl).snoc (p := z) (c := [.int .u8 z]) rfl rfl
theorem ex_byte (hgd : o.guard = none) {t : TypeId} (x i : Operand) (ho : o.op = .index t x i) (hu : P.underlying t = some .string) {k : IntKind} (s : ByteArray) (n : Int) (hx : a.eval x = .string s) (hi : a.eval i = .int k n) (h0 : 0 ≤ n) (h1 : n < (s.size : Int)) (N : Tmp) (hd : o.dst = some N)
    (h : ∀ y : Int, Aside0 (y = bt s n) → Aside0 (0 ≤ y ∧ y ≤ 255) → wpList P ops Q rest (a.put (some N) (.int .u8 y)) w) : wpList P ops Q (o :: rest) a w :=
  Go.Great.wpList_runTo hgd (some N) hd _ _ (ch_byte x i ho hu s n hx hi h0 h1) (h _ ⟨rfl⟩ ⟨bt_range s n⟩)
theorem ex_conv (hgd : o.guard = none) (src dst : TypeId) (x : Operand) (ho : o.op = .convert src dst x) {e : TypeId} {A : Option Addr} {n c : Nat} {xs : List Int} (hs : P.underlying src = some (.slice e)) (he : P.underlying e = some (.int .u8)) (hd : P.underlying dst = some .string) (hx : a.eval x = .slice A n c) (h : (Kd.int .u8).C w A n xs) (N : Tmp) (hN : o.dst = some N)
    (hk : wpList P ops Q rest (a.put (some N) (.string (strOfNums xs))) w) : wpList P ops Q (o :: rest) a w := by
  refine Go.Great.wpList_runTo hgd (some N) hN _ _ ?_ hk
  have hr := Kd.C_string (c := c) hs he hd h
  unfold execOp
  simp only [ho, hx, Sem.run_bind, hr, Result.andThen_ok, Sem.run_pure]
theorem tk {md : Region.Mode} {fuel : Nat} {listed : Array Bool} (i : Nat) (v : Value) (hi : ops[i]? = some o) (hs : Region.noSelect ops = true) (hf : Region.free md ops listed i = true) (hr : (Region.ready md ops listed).contains i = true)
    (hQ : ∀ c a w, Q (.panic c) (a.put o.dst v) w → Q (.panic c) a w) (hw : Region.wanted o (yielded ops a.tmps) = true) (hv : ∀ w, (execOp a.eval o).run P w = .ok (.value v) w) (h : wpAny P md ops Q fuel (listed.setIfInBounds i true) (a.put o.dst v) w1) : wpAny P md ops Q (fuel + 1) listed a w1 :=
  wpAny_take hi hs hf hr hQ (.inl ⟨hw, hv⟩) h
theorem op_step {i : Nat} (hi : ops[i]? = some o) (h : if Region.wanted o (yielded ops a.tmps) = true then Oper.wp P o a w K Q else K (a.put o.dst undef) w) : wpOp P ops Q i K a w := by
  unfold wpOp
  simp only [hi]
  by_cases hw : Region.wanted o (yielded ops a.tmps) = true
  · rw [if_pos hw] at h ⊢
    exact .inl h
  · rw [if_neg hw] at h ⊢
    exact h
end
set_option maxHeartbeats 8000000 in
set_option maxRecDepth 100000 in
theorem Word_told (s : ByteArray) (hs : s.size ≤ 4000000000) (w : World) : Calls Tryd.prog 45 #[.string s] w fun e w' => e = .returned (.string (wordS s)) ∧ Below w.heap.size w w' := by
  by_cases c2 : s.toList = ([] : List UInt8)
  · have c2b0 : (s.toList == ([] : List UInt8)) = true := beq_iff_eq.mpr c2
    have e_ : wordS s = ⟨#[45]⟩ := if_pos c2
    rw [e_]
    clear c2 e_ hs
    go_enter Tryd.func45, Tryd.ntmps45
    go_wp2
    go_ret
    exact ⟨rfl, Below.refl _ _⟩
  have c2b0 : (s.toList == ([] : List UInt8)) = false := beq_eq_false_iff_ne.mpr c2
  have E_ : Aside0 (wordS s = strOfNums (wordL s s.size)) := ⟨if_neg c2⟩
  have HS := Aside0.mk hs
  clear c2 hs
  obtain ⟨hx_, hhx⟩ : ∃ y, y = hexS := ⟨_, rfl⟩
  have HX_ := Aside0.mk hhx
  clear hhx
  go_enter Tryd.func45, Tryd.ntmps45
  go_wp2_with (first | ((with_reducible refine gate_dst (N := 9) rfl ?_); refine Kd.R_lit (Kd.int .u8) (w0 := w) w.heap.size 5 ?hg (N := 9) ?hd (xs := ([] : List Int)) (inner := []) (ok := fun _ => True) (okp := fun _ => True) ?hr ?hp (fun _ hk => hk) trivial (Below.refl _ _) (Nat.le_refl _) (by simp) ?_; (case hd => rfl); (case hg => rfl); (case hr => first | (go_simp; done) | (go_simp; rfl)); (case hp => exact (Reps.none _ _)); intro vm wm om_ bm_ hg_ hnew_; clear hg_ hnew_; (try simp only [Int.reduceToNat] at om_); have OM := Aside0.mk om_; have BM := Aside0.mk bm_; clear om_ bm_))
  (try simp only [Act.put, List.setIfInBounds_toArray, List.set_cons_succ, List.set_cons_zero])
  go_loopg [4, 5] s.size (fun kq v4 v5 wr => ∃ i : Nat, v5 = .int .i64 (i : Int) ∧ Aside0 (kq + i = s.size) ∧ Aside0 (Kd.R (Kd.int .u8) 5 wr w.heap.size (fun _ => True) v4 (wordL s i)) ∧ Aside0 (Below w.heap.size w wr))
  case atStart => exact ⟨0, rfl, ⟨by simp⟩, OM, BM⟩
  case round =>
    clear OM BM
    obtain ⟨i, rfl, hki, O, HB⟩ := hrel
    obtain ⟨wn, rfl⟩ : ∃ x, x = wr := ⟨_, rfl⟩
    by_cases ci : i < s.size
    case pos =>
      have ci0 : decide ((i : Int) < (s.size : Int)) = true := decide_eq_true (by omega)
      have ci1 : decide (i < s.size) = true := decide_eq_true ci
      have CI := Aside0.mk ci
      clear ci
      have hw_ : wrap64 ((i : Int) + 1) = ((i + 1 : Nat) : Int) := by (have := CI.out; have := HS.out; unfold wrap64; omega)
      have LW : Aside0 ((wordL s i).length ≤ 12000000000) := ⟨by have := wordL_le s i; have := CI.out; have := HS.out; omega⟩
      go_wp2_with (first | ((with_reducible refine gate_dst (N := 18) rfl ?_); refine ex_byte rfl (.tmp 16) (.tmp 17) rfl Tryd.underlying9 s (i : Int) rfl rfl (by omega) (by have := CI.out; omega) 18 rfl ?_; intro x hx rx; rcases spw x with ⟨q1, q2, q3, q4, q5, e_⟩ | ⟨q1 | ⟨q1, q2⟩ | ⟨q1, q2, q3⟩ | ⟨q1, q2, q3, q4⟩ | ⟨q1, q2, q3, q4, q5⟩, e_⟩ <;> have EX := Aside0.mk e_ <;> clear e_) | ((with_reducible refine gate_builtin (b := .append) (xs := #[.tmp 37, .tmp 39]) rfl ?_); at_builtin; refine Kd.R_append (Kd.int .u8) (w0 := w) w.heap.size rfl (.tmp 37) (.tmp 39) 22 5 (.int .u8 0) 1 rfl Tryd.underlying22 info5 rfl (by decide) (by omega) u4 (wordL s i) x [.int .u8 x] (fun _ => True) (fun _ => False) rfl rfl ?aP (fun _ hk => hk.elim) ?aF ?aO ?aB ?aS ?aL ?_; (case aP => exact rfl); (case aB => exact (by repeat (first | (with_reducible first | exact HB.out | apply below_alloc | apply pw_below_drewN | apply below_drew1) | exact HB.out))); (case aF => exact (fun _ _ => trivial)); (case aO => exact (by (with_reducible repeat (first | apply Kd.R_alloc | apply Kd.R_drewN | apply Kd.R_drew)); exact O.out)); (case aS => exact (below_size (by repeat (first | (with_reducible first | exact HB.out | apply below_alloc | apply pw_below_drewN | apply below_drew1) | exact HB.out)))); (case aL => have := LW.out; omega); intro vn wm ho_ hb_ hg_ hat_; clear hg_ hat_; have O2 := Aside0.mk ho_; have HB2 := Aside0.mk hb_; clear ho_ hb_))
      · cases gk with
        | zero => exact absurd CI.out (by have := hki.out; omega)
        | succ gk =>
          go_roundg gk
          case measure => omega
          case rel => exact ⟨i + 1, by rw [hw_], ⟨by have := hki.out; omega⟩, ⟨by (rw [wordL_succ, ← hx.out, EX.out]; exact O2.out)⟩, HB2⟩
      all_goals (
        refine wp_region_any (by kernel_rfl) ?_
        obtain ⟨w7, hd⟩ : ∃ wd, wd = wn.drew := ⟨_, rfl⟩
        rw [show ({ wn with drawn := wn.drawn + 1 } : World) = w7 from hd.symm]
        have B7 : Aside0 (Below w.heap.size w w7) := ⟨by rw [hd]; exact below_drew HB.out⟩
        have O7 : Aside0 (Kd.R (Kd.int .u8) 5 w7 w.heap.size (fun _ => True) u4 (wordL s i)) := ⟨by rw [hd]; exact Kd.R_drew O.out⟩
        clear hd
        refine tk 0 (u4) rfl (by kernel_rfl) (by kernel_rfl) (by kernel_rfl) (fun _ _ _ h => h) rfl (fun w_ => by unfold execOp; go_simp; first | done | rfl) ?_
        simp only [List.getElem_toArray, List.getElem_cons_succ, List.getElem_cons_zero, Act.put, List.setIfInBounds_toArray, List.set_cons_succ, List.set_cons_zero]
        refine tk 1 (.string hexS) rfl (by kernel_rfl) (by kernel_rfl) (by kernel_rfl) (fun _ _ _ h => h) rfl (fun w_ => by unfold execOp; go_simp; first | done | rfl) ?_
        simp only [List.getElem_toArray, List.getElem_cons_succ, List.getElem_cons_zero, Act.put, List.setIfInBounds_toArray, List.set_cons_succ, List.set_cons_zero]
        refine tk 2 (.int .u8 x) rfl (by kernel_rfl) (by kernel_rfl) (by kernel_rfl) (fun _ _ _ h => h) rfl (fun w_ => by unfold execOp; go_simp; first | done | rfl) ?_
        simp only [List.getElem_toArray, List.getElem_cons_succ, List.getElem_cons_zero, Act.put, List.setIfInBounds_toArray, List.set_cons_succ, List.set_cons_zero]
        refine tk 3 (.int .u8 (x / 16)) rfl (by kernel_rfl) (by kernel_rfl) (by kernel_rfl) (fun _ _ _ h => h) rfl (fun w_ => by unfold execOp; go_simp; have h1_ := rx.out; first | (rw [show IntKind.u8.wrap (x.tdiv 16) = x / 16 by (rw [Int.tdiv_eq_ediv_of_nonneg (by omega), IntKind.wrap_u8]; omega)]; done) | (rw [show IntKind.u8.wrap (x.tdiv 16) = x / 16 by (rw [Int.tdiv_eq_ediv_of_nonneg (by omega), IntKind.wrap_u8]; omega)]; rfl)) ?_
        simp only [List.getElem_toArray, List.getElem_cons_succ, List.getElem_cons_zero, Act.put, List.setIfInBounds_toArray, List.set_cons_succ, List.set_cons_zero]
        refine tk 4 (.int .u8 (bt hexS (x / 16))) rfl (by kernel_rfl) (by kernel_rfl) (by kernel_rfl) (fun _ _ _ h => h) rfl (fun w_ => by exact ch_byte (.tmp 42) (.tmp 44) rfl Tryd.underlying9 hexS (x / 16) rfl rfl (by have := rx.out; omega) (by have := rx.out; show x / 16 < 16; omega)) ?_
        simp only [List.getElem_toArray, List.getElem_cons_succ, List.getElem_cons_zero, Act.put, List.setIfInBounds_toArray, List.set_cons_succ, List.set_cons_zero]
        refine tk 5 (.string hexS) rfl (by kernel_rfl) (by kernel_rfl) (by kernel_rfl) (fun _ _ _ h => h) rfl (fun w_ => by unfold execOp; go_simp; first | done | rfl) ?_
        simp only [List.getElem_toArray, List.getElem_cons_succ, List.getElem_cons_zero, Act.put, List.setIfInBounds_toArray, List.set_cons_succ, List.set_cons_zero]
        refine tk 6 (.int .u8 x) rfl (by kernel_rfl) (by kernel_rfl) (by kernel_rfl) (fun _ _ _ h => h) rfl (fun w_ => by unfold execOp; go_simp; first | done | rfl) ?_
        simp only [List.getElem_toArray, List.getElem_cons_succ, List.getElem_cons_zero, Act.put, List.setIfInBounds_toArray, List.set_cons_succ, List.set_cons_zero]
        refine tk 7 (.int .u8 (x % 16)) rfl (by kernel_rfl) (by kernel_rfl) (by kernel_rfl) (fun _ _ _ h => h) rfl (fun w_ => by unfold execOp; go_simp; have h1_ := rx.out; first | (rw [Int.tmod_eq_emod_of_nonneg (by omega)]; done) | (rw [Int.tmod_eq_emod_of_nonneg (by omega)]; rfl)) ?_
        simp only [List.getElem_toArray, List.getElem_cons_succ, List.getElem_cons_zero, Act.put, List.setIfInBounds_toArray, List.set_cons_succ, List.set_cons_zero]
        refine tk 8 (.int .u8 (bt hexS (x % 16))) rfl (by kernel_rfl) (by kernel_rfl) (by kernel_rfl) (fun _ _ _ h => h) rfl (fun w_ => by exact ch_byte (.tmp 46) (.tmp 48) rfl Tryd.underlying9 hexS (x % 16) rfl rfl (by have := rx.out; omega) (by have := rx.out; show x % 16 < 16; omega)) ?_
        simp only [List.getElem_toArray, List.getElem_cons_succ, List.getElem_cons_zero, Act.put, List.setIfInBounds_toArray, List.set_cons_succ, List.set_cons_zero]
        obtain ⟨ya, hya⟩ : ∃ y, y = bt hexS (x / 16) := ⟨_, rfl⟩
        obtain ⟨yb, hyb⟩ : ∃ y, y = bt hexS (x % 16) := ⟨_, rfl⟩
        rw [← hya, ← hyb]
        have HYA := Aside0.mk hya
        have HYB := Aside0.mk hyb
        clear hya hyb
        refine wpAny_all (rs := [9]) (by kernel_rfl) (by simp) ?_
        intro i_ hi_
        obtain rfl := List.mem_singleton.1 hi_
        refine op_step rfl ?_
        refine Kd.R_lit_step (Kd.int .u8) (w0 := w7) w7.heap.size 5 rfl (N := 50) rfl (xs := [37, ya, yb]) (inner := [.int .u8 37, .int .u8 ya, .int .u8 yb]) (ok := fun _ => True) (okp := fun _ => True) ?hr (reps3 _ _ _ _ _ _) (fun _ hk => hk) trivial (Below.refl _ _) (Nat.le_refl _) (by simp) ?_
        case hr => first | (go_simp; done) | (go_simp; rfl)
        intro vl w8 ol_ bl_ hg_ hnew_
        clear hg_ hnew_
        obtain ⟨Al, cl, rfl⟩ := Kd.R_slice ol_
        have OL := Aside0.mk ol_
        have B8 := Aside0.mk (below_then B7.out B7.out.size bl_)
        have O8 := Aside0.mk (Kd.R_below O7.out bl_)
        clear ol_ bl_ O7
        simp only [List.getElem_toArray, List.getElem_cons_succ, List.getElem_cons_zero, Act.put, List.setIfInBounds_toArray, List.set_cons_succ, List.set_cons_zero]
        refine wpAny_all (rs := [10]) (by kernel_rfl) (by simp) ?_
        intro i_ hi_
        obtain rfl := List.mem_singleton.1 hi_
        refine op_step rfl ?_
        refine Kd.R_append_rows_step (Kd.int .u8) (w0 := w) w.heap.size rfl (.tmp 41) (.tmp 50) 22 5 (.int .u8 0) 1 rfl Tryd.underlying22 info5 rfl (by decide) (by omega) u4 (wordL s i) [37, ya, yb] _ _ _ (fun _ => True) (fun _ => False) rfl rfl O8.out (Kd.R_reads' OL.out).2.2 (fun _ _ h => h) (fun _ h => h.elim) (fun _ _ => trivial) B8.out B8.out.size (by have := LW.out; simp only [List.length_cons, List.length_nil]; omega) ?_
        intro va w9 ho_ hb_ hg_ hat_
        clear hg_ hat_
        have O2 := Aside0.mk ho_
        have HB2 := Aside0.mk hb_
        clear ho_ hb_
        simp only [List.getElem_toArray, List.getElem_cons_succ, List.getElem_cons_zero, Act.put, List.setIfInBounds_toArray, List.set_cons_succ, List.set_cons_zero]
        refine tk 11 (va) rfl (by kernel_rfl) (by kernel_rfl) (by kernel_rfl) (fun _ _ _ h => h) rfl (fun w_ => by unfold execOp; go_simp; first | done | rfl) ?_
        simp only [List.getElem_toArray, List.getElem_cons_succ, List.getElem_cons_zero, Act.put, List.setIfInBounds_toArray, List.set_cons_succ, List.set_cons_zero]
        refine wpAny_done (by kernel_rfl) ?_ _
        go_wp2
        rw [HYA.out, HYB.out] at O2
        cases gk with
        | zero => exact absurd CI.out (by have := hki.out; omega)
        | succ gk =>
          go_roundg gk
          case measure => omega
          case rel => exact ⟨i + 1, by rw [hw_], ⟨by have := hki.out; omega⟩, ⟨by (rw [wordL_succ, ← hx.out, EX.out]; exact O2.out)⟩, HB2⟩)
    case neg =>
      have ci0 : decide ((i : Int) < (s.size : Int)) = false := decide_eq_false (by omega)
      have ci1 : decide (i < s.size) = false := decide_eq_false ci
      have hi_ : i = s.size := by (have := hki.out; omega)
      subst hi_
      obtain ⟨Ao, co, rfl⟩ := Kd.R_slice O.out
      clear ci hki
      go_wp2_with (first | ((with_reducible refine gate_dst (N := 53) rfl ?_); refine ex_conv rfl 22 9 (.tmp 52) rfl Tryd.underlying22 Tryd.underlying5 Tryd.underlying9 rfl (Kd.R_reads' O.out).2.2 53 rfl ?_))
      go_ret
      rw [E_.out]
      exact ⟨rfl, HB.out⟩
end Go.Proofs.YtknlpjoidjgciaaDoor.PFnExactTellAns
