/- TellAns: what both functions tell; steps. -/
import Derived.Test.YtknlpjoidjgciaaDoorTlf
namespace Go.Proofs.YtknlpjoidjgciaaDoor.PFnExactTellAns
open Go.RowKit Go.Proofs.YtknlpjoidjgciaaDoorW.PrintWords Go.Proofs.YtknlpjoidjgciaaDoorW.PrintLast Go.Proofs.YtknlpjoidjgciaaDoorW.PrintMore
open Go.Proofs.YtknlpjoidjgciaaDoorW Go.Proofs.YtknlpjoidjgciaaDoorW.PrintHand Go.Proofs.YtknlpjoidjgciaaDoorW.PrintHx
attribute [local go_sem] max2_int min2_int max_two min_two max_three min_three max_four min_four
set_option linter.unusedVariables false
set_option linter.unusedSimpArgs false

def I64 (v : Int) : Prop := -9223372036854775808 ≤ v ∧ v ≤ 9223372036854775807
def kStat : ByteArray := ⟨#[32, 115, 116, 97, 116, 58]⟩
def kUse : ByteArray := ⟨#[32, 117, 115, 97, 103, 101, 58]⟩
def kData : ByteArray := ⟨#[32, 61]⟩
def kSp : ByteArray := ⟨#[32]⟩
def kCol : ByteArray := ⟨#[58]⟩
def tell0 (c n : Int) : ByteArray := (decS c ++ kSp) ++ decS n
def tell1 (t : ByteArray) (l : List Int) : ByteArray := if l.length = 0 then t else t ++ (kData ++ wordS (strOfNums l))
def tellI (k t : ByteArray) (st : List Int) : ByteArray := if st = List.replicate 10 0 then t else t ++ (k ++ joinS st)
def tellX (x : S82) : ByteArray := ((kSp ++ wordS x.f0) ++ kCol) ++ joinS [x.f1, x.f2]
def tellN (t : ByteArray) (l : List S82) : ByteArray := l.foldl (fun o x => o ++ tellX x) t
def tellS (c n : Int) (l2 st : List Int) (l13 : List S82) (us : List Int) : ByteArray := tellI kUse (tellN (tellI kStat (tell1 (tell0 c n) l2) st) l13) us
theorem tellN_snoc (t : ByteArray) (l : List S82) (x : S82) : tellN t (l ++ [x]) = tellN t l ++ tellX x := by simp [tellN]
theorem strS_size (l : List Int) : (strOfNums l).size = l.length := by simp [strOfNums, ByteArray.size]
theorem wordS_size (s : ByteArray) : (wordS s).size ≤ 3 * s.size + 1 := by
  unfold wordS
  split
  · show 1 ≤ _
    omega
  · rw [strS_size]
    have := wordL_le s s.size
    omega
theorem tell0_size {c n : Int} (hc : I64 c) (hn : I64 n) : (decS c ++ kSp).size ≤ 22 ∧ (tell0 c n).size ≤ 43 := by
  have h1 := decS_size c hc.1 hc.2
  have h2 := decS_size n hn.1 hn.2
  have h3 : kSp.size = 1 := rfl
  unfold tell0
  simp only [ByteArray.size_append, h3]
  omega
theorem tell1_size (t : ByteArray) (l : List Int) (h : l.length ≤ 1048576) : (tell1 t l).size ≤ t.size + 3145731 := by
  unfold tell1
  split
  · omega
  · have := wordS_size (strOfNums l)
    have h2 := strS_size l
    have h3 : kData.size = 2 := rfl
    rw [ByteArray.size_append, ByteArray.size_append, h3]
    omega
theorem tellI_size (k t : ByteArray) (st : List Int) (h : st.length = 10) (hn : ∀ v ∈ st, I64 v) (hk : k.size ≤ 7) : (tellI k t st).size ≤ t.size + 227 := by
  unfold tellI
  split
  · omega
  · have := joinS_size st hn
    rw [ByteArray.size_append, ByteArray.size_append]
    omega
theorem tellX_size (x : S82) (h0 : x.f0.size ≤ 1048576) (h1 : I64 x.f1) (h2 : I64 x.f2) : (tellX x).size ≤ 3145775 := by
  unfold tellX
  have := joinS_size [x.f1, x.f2] (by intro v hv; rcases List.mem_cons.1 hv with rfl | hv; exact h1; rcases List.mem_cons.1 hv with rfl | hv; exact h2; cases hv)
  have := wordS_size x.f0
  have h3 : kSp.size = 1 := rfl
  have h4 : kCol.size = 1 := rfl
  rw [ByteArray.size_append, ByteArray.size_append, ByteArray.size_append, h3, h4]
  simp only [List.length_cons, List.length_nil] at *
  omega
def GoodX (x : S82) : Prop := x.f0.size ≤ 1048576 ∧ I64 x.f1 ∧ I64 x.f2
theorem tellN_size (t : ByteArray) (l : List S82) (h : ∀ x ∈ l, GoodX x) : (tellN t l).size ≤ t.size + 3145775 * l.length := by
  induction l generalizing t with
  | nil => simp [tellN]
  | cons x r ih =>
    have h1 := ih (t ++ tellX x) (fun y hy => h y (List.mem_cons_of_mem _ hy))
    have h2 := tellX_size x (h x (List.mem_cons_self ..)).1 (h x (List.mem_cons_self ..)).2.1 (h x (List.mem_cons_self ..)).2.2
    have e : tellN t (x :: r) = tellN (t ++ tellX x) r := rfl
    rw [e, List.length_cons]
    rw [ByteArray.size_append] at h1
    omega
section
variable {P : Program} {ops : Array Oper} {rest : List Oper} {o : Oper} {a : Act} {w : World} {Q : Exit → Act → World → Prop} {md : Region.Mode} {S : World → Prop}
theorem neqw_binop {t n D : Nat} (h : PrintEqW.EqW P t n D) (hD : D ≤ 10000) (a b : List Int) (w : World) (ha : a.length = n) (hb : b.length = n) : (binOp .neq t (.agg (nums .i64 a).toArray) (.agg (nums .i64 b).toArray)).run P w = .ok (.bool (!decide (a = b))) w := by
  obtain ⟨d, hd⟩ : ∃ d, 10000 = d + D := ⟨10000 - D, by omega⟩
  rw [run_neq_struct, hd, h d a b w ha hb]
  rfl
theorem ex_neqw {t n D : Nat} (hgd : o.guard = none) (x y : Operand) (u : TypeId) (ho : o.op = .binOp .neq t x y u) (h : PrintEqW.EqW P t n D) (hD : D ≤ 10000) (hm : P.eqGuardType P.depth t = false)
    (la lb : List Int) (hx : a.eval x = .agg (nums .i64 la).toArray) (hy : a.eval y = .agg (nums .i64 lb).toArray) (ha : la.length = n) (hb : lb.length = n) (N : Tmp) (hN : o.dst = some N) (q : Bool) (hq : Aside0 ((!decide (la = lb)) = q))
    (hk : wpList P ops Q rest (a.put (some N) (.bool q)) w) : wpList P ops Q (o :: rest) a w := by
  obtain rfl := hq.out
  refine wpList_plain hgd fun K hK => ?_
  have hr := neqw_binop h hD la lb w ha hb
  have hg := run_eqGuard_agg (P := P) w .neq t x y (nums .i64 la).toArray (nums .i64 lb).toArray hm
  unfold Oper.wp execOp
  simp only [ho, hx, hy, Sem.run_bind, hg, hr, Result.andThen_ok, Sem.run_pure, Oper.upon_value]
  rw [← hN] at hk
  exact hK _ _ hk
theorem ex_alloc (hgd : o.guard = none) (N : Tmp) (hd : o.dst = some N) (t : TypeId) (ho : o.op = .alloc t) (z : Value) (zs : Array Value) (hz : ∀ w, (zeroValue t).run P w = .ok z w) (hzs : z.cells = zs)
    (h : ∀ (s : Nat) (w' : World), Aside0 (w.heap.size = s) → Aside0 (w'.heap.size = s + 1) → Below w.heap.size w w' → w'.heap[s]? = some (.cells zs t (0, 0)) → wpList P ops Q rest (a.put (some N) (.pointer (some ⟨s, 0, none⟩))) w') : wpList P ops Q (o :: rest) a w := by
  subst hzs
  refine Go.Great.wpList_runTo hgd (some N) hd (.pointer (some ⟨w.heap.size, 0, none⟩)) (w.alloc (.cells z.cells t)) ?_ (h _ _ ⟨rfl⟩ ⟨World.size_alloc _ _⟩ (below_alloc (Below.refl _ _) _) (blk_new _ _))
  unfold execOp
  simp only [ho, Instr.alloc, Sem.run_bind, hz, Result.andThen_ok, newVar, newRow, run_newObj_alloc, Sem.run_pure]
theorem ch_ld1 {t : TypeId} {x : Operand} {s off : Nat} {cs : Array Value} {v : Value} {tt : TypeId} {d : TypeDesc} (hw : w.heap[s]? = some (.cells cs tt (0, 0))) (hv : cs[off]? = some v) (ho : o.op = .load t x := by rfl) (hx : a.eval x = .pointer (some ⟨s, off, none⟩) := by rfl) (hu : P.underlying t = some d := by rfl) (hd : (match d with | .struct _ | .array _ _ => true | _ => false) = false := by rfl) : (execOp a.eval o).run P w = .ok (.value v) w := by
  have hagg : (isAgg t).run P w = .ok false w := by
    unfold isAgg
    rw [Sem.run_bind, run_underlying hu w]
    cases d <;> simp_all
  have hc : w.cell? ⟨s, off, none⟩ = some v := (blk_cell hw off).trans hv
  have h : (loadVar t ⟨s, off, none⟩).run P w = .ok v w := by
    unfold loadVar
    rw [Sem.run_bind, hagg]
    simp [hc]
  unfold execOp
  simp only [ho, hx, Instr.loadAt, Instr.sureAddr, Sem.run_bind, Sem.run_pure, Result.andThen_ok, h]
theorem ch_cat (t : TypeId) (x y : Operand) (ho : o.op = .binOp .add t x y t) (p q : ByteArray) (hx : a.eval x = .string p) (hy : a.eval y = .string q) (hs : p.size + q.size ≤ 9223372036854775807) : (execOp a.eval o).run P w = .ok (.value (.string (p ++ q))) w := by
  have hr : (binOp .add t (.string p) (.string q)).run P w = .ok (.string (p ++ q)) w := by
    simp [binOp, Op.stringOp]
    omega
  have hg : (eqGuard .add t x y (.string p) (.string q)).run P w = .ok () w := by simp [eqGuard]
  unfold execOp
  simp only [ho, hx, hy, Sem.run_bind, hg, hr, Result.andThen_ok, Sem.run_pure]
theorem onlyH (i : Nat) {fuel : Nat} {listed : Array Bool} (hr : Region.ready md ops listed = [i])
    (h : wpOp P ops Q i (fun a' w' => S w' ∧ wpAnyH P md ops Q S fuel (listed.setIfInBounds i true) a' w') a w) : wpAnyH P md ops Q S (fuel + 1) listed a w :=
  wpAnyH_all hr (by simp) (fun j hj => by obtain rfl := List.mem_singleton.1 hj; exact h)
theorem bothH (i k : Nat) {fuel : Nat} {listed : Array Bool} (hr : Region.ready md ops listed = [i, k])
    (h1 : wpOp P ops Q i (fun a' w' => S w' ∧ wpAnyH P md ops Q S fuel (listed.setIfInBounds i true) a' w') a w)
    (h2 : wpOp P ops Q k (fun a' w' => S w' ∧ wpAnyH P md ops Q S fuel (listed.setIfInBounds k true) a' w') a w) : wpAnyH P md ops Q S (fuel + 1) listed a w :=
  wpAnyH_all hr (by simp) (fun j hj => by
    rcases List.mem_cons.1 hj with rfl | hj
    · exact h1
    · obtain rfl := List.mem_singleton.1 hj
      exact h2)
theorem op_call {i : Nat} (hi : ops[i]? = some o) (hgd : o.guard = none) {K : Act → World → Prop} {f : FuncId} {fn : Func} {ags : Array Operand} {ts : Array TypeId} (hf : P.funcs[f]? = some fn) (hname : (fn.name == "runtime.NumGoroutine") = false) (hb : fn.body.isSome = true)
    (hop : o.op = .call { callee := .value (.func f), args := ags, argTypes := ts }) (args : Array Value) (hargs : ags.map a.eval = args)
    (h : Calls P f args w fun e w' => ∃ v, e = .returned v ∧ K (a.put o.dst v) w') : wpOp P ops Q i K a w := by
  unfold wpOp
  simp only [hi]
  have hw : Region.wanted o (yielded ops a.tmps) = true := by simp [Region.wanted, hgd]
  rw [if_pos hw]
  refine .inl ?_
  have he := PrintLast.enters_ hf hname hb args w
  have hrun : (execOp a.eval o).run P w = .ok (.enter f args) w := by
    unfold execOp
    simp [hop, resolve, Act.eval, Deferred.ofValue, invoke, hargs, he]
  unfold Oper.wp
  rw [hrun, Oper.upon_enter]
  refine h.mono fun e w'' hh => ?_
  obtain ⟨v, rfl, hk⟩ := hh
  exact hk
end
theorem eqw32 : PrintEqW.EqW Tryd.prog 32 10 2 := by
  refine PrintEqW.eqw_struct Tryd.underlying32 (by kernel_rfl) (fun d => ?_)
  refine PrintEqW.fw_int rfl rfl Tryd.underlying3 (by decide) ?_
  refine PrintEqW.fw_int rfl rfl Tryd.underlying3 (by decide) ?_
  refine PrintEqW.fw_int rfl rfl Tryd.underlying3 (by decide) ?_
  refine PrintEqW.fw_int rfl rfl Tryd.underlying3 (by decide) ?_
  refine PrintEqW.fw_int rfl rfl Tryd.underlying3 (by decide) ?_
  refine PrintEqW.fw_int rfl rfl Tryd.underlying3 (by decide) ?_
  refine PrintEqW.fw_int rfl rfl Tryd.underlying3 (by decide) ?_
  refine PrintEqW.fw_int rfl rfl Tryd.underlying3 (by decide) ?_
  refine PrintEqW.fw_int rfl rfl Tryd.underlying3 (by decide) ?_
  refine PrintEqW.fw_int rfl rfl Tryd.underlying3 (by decide) ?_
  exact PrintEqW.fw_nil
theorem eqw34 : PrintEqW.EqW Tryd.prog 34 10 2 := by
  refine PrintEqW.eqw_struct Tryd.underlying34 (by kernel_rfl) (fun d => ?_)
  refine PrintEqW.fw_int rfl rfl Tryd.underlying3 (by decide) ?_
  refine PrintEqW.fw_int rfl rfl Tryd.underlying3 (by decide) ?_
  refine PrintEqW.fw_int rfl rfl Tryd.underlying3 (by decide) ?_
  refine PrintEqW.fw_int rfl rfl Tryd.underlying3 (by decide) ?_
  refine PrintEqW.fw_int rfl rfl Tryd.underlying3 (by decide) ?_
  refine PrintEqW.fw_int rfl rfl Tryd.underlying3 (by decide) ?_
  refine PrintEqW.fw_int rfl rfl Tryd.underlying3 (by decide) ?_
  refine PrintEqW.fw_int rfl rfl Tryd.underlying3 (by decide) ?_
  refine PrintEqW.fw_int rfl rfl Tryd.underlying3 (by decide) ?_
  refine PrintEqW.fw_int rfl rfl Tryd.underlying3 (by decide) ?_
  exact PrintEqW.fw_nil
theorem bw_ {w w' : World} {s : Nat} (hs : Aside0 (w.heap.size = s)) (hb : Aside0 (Below s w w')) : Below w.heap.size w w' := by rw [hs.out]; exact hb.out
end Go.Proofs.YtknlpjoidjgciaaDoor.PFnExactTellAns
