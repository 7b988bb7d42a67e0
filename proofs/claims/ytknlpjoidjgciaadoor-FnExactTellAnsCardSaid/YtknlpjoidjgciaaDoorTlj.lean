/- TellAns: szAns, eqAns; the law's walk. -/
import Derived.Test.YtknlpjoidjgciaaDoorTli
import Derived.Test.YtknlpjoidjgciaaDoorPFnExactTellAnsx9
namespace Go.Proofs.YtknlpjoidjgciaaDoor.PFnExactTellAns
open Go.RowKit Go.Proofs.YtknlpjoidjgciaaDoorW.PrintWords Go.Proofs.YtknlpjoidjgciaaDoorW.PrintLast Go.Proofs.YtknlpjoidjgciaaDoorW.PrintMore
open Go.Proofs.YtknlpjoidjgciaaDoorW Go.Proofs.YtknlpjoidjgciaaDoorW.PrintHand Go.Proofs.YtknlpjoidjgciaaDoorW.PrintHx
attribute [local go_sem] max2_int min2_int max_two min_two max_three min_three max_four min_four
set_option linter.unusedVariables false
set_option linter.unusedSimpArgs false

theorem rdT142 (l : List S142) (i : Nat) (hi : i < l.length) : rd_T142 l (i : Int) = l[i] := by simp [rd_T142, List.getD_eq_getElem?_getD, List.getElem?_eq_getElem hi]
theorem rdT82 (l : List S82) (i : Nat) (hi : i < l.length) : rd_T82 l (i : Int) = l[i] := by simp [rd_T82, List.getD_eq_getElem?_getD, List.getElem?_eq_getElem hi]
theorem szd_l0 (l : List S142) (hs : ∀ x ∈ l, x.f0.size ≤ 9223372036854775807) (hl : l.length ≤ 1048576) : ∀ (d i k : Nat) (a : Int), i + d = l.length → d < k → 0 ≤ a → a ≤ 1048576 → ∃ r, laws_szDirentS.l0 k l a (i : Int) = some r ∧ (r < 0 ∨ (0 ≤ r ∧ ∀ x ∈ l.drop i, x.f0.size ≤ 1048576))
  | 0, i, k, a, h1, h3, h4, h5 => by
    obtain ⟨k, rfl⟩ : ∃ m, k = m + 1 := ⟨k - 1, by omega⟩
    simp only [laws_szDirentS.l0]
    rw [if_neg (by omega)]
    exact ⟨a, rfl, .inr ⟨h4, by rw [List.drop_eq_nil_of_le (by omega)]; intro x hx; cases hx⟩⟩
  | d + 1, i, k, a, h1, h3, h4, h5 => by
    obtain ⟨k, rfl⟩ : ∃ m, k = m + 1 := ⟨k - 1, by omega⟩
    simp only [laws_szDirentS.l0]
    have hi : i < l.length := by omega
    have hsz := hs l[i] (List.getElem_mem _)
    have hw : wrap64 (a - ((l[i]).f0.size : Int)) = a - ((l[i]).f0.size : Int) := by unfold wrap64; omega
    rw [if_pos (by omega), if_pos (by omega), rdT142 l i hi]
    unfold laws_szDirent.f
    rw [hw]
    by_cases c : a - ((l[i]).f0.size : Int) < 0
    · rw [if_pos c, Option.bind_some, if_pos (by decide)]
      exact ⟨-1, rfl, .inl (by decide)⟩
    · rw [if_neg c, Option.bind_some, if_neg c, w1_ i l.length hi (by omega)]
      obtain ⟨r, hr, hq⟩ := szd_l0 l hs hl d (i + 1) k (a - ((l[i]).f0.size : Int)) (by omega) (by omega) (by omega) (by omega)
      refine ⟨r, hr, hq.imp id fun h => ⟨h.1, ?_⟩⟩
      rw [List.drop_eq_getElem_cons hi]
      intro x hx
      rcases List.mem_cons.1 hx with rfl | hx
      · omega
      · exact h.2 x hx
def Fits (l2 : List Int) (l13 : List S142) : Prop := l2.length ≤ 1048576 ∧ l13.length ≤ 1048576 ∧ ∀ x ∈ l13, x.f0.size ≤ 1048576
theorem szd_f (l2 : List Int) (l : List S142) (hm2 : l2.length ≤ 9223372036854775807) (hm : l.length ≤ 9223372036854775807) (hs : ∀ x ∈ l, x.f0.size ≤ 9223372036854775807) : ∃ r, ((laws_szByteS.f l2 1048576).bind fun t105 => (if t105 < 0 then (some (-1)) else ((laws_szDirentS.f (l.length + 1) l t105).bind fun t106 => (if t106 < 0 then (some (-1)) else (some t106))))) = some r ∧ (r < 0 ∨ (0 ≤ r ∧ Fits l2 l)) := by
  unfold laws_szByteS.f
  have hw : wrap64 (1048576 - (l2.length : Int)) = 1048576 - (l2.length : Int) := by unfold wrap64; omega
  rw [hw]
  by_cases c : (1048576 : Int) - (l2.length : Int) < 0
  · rw [if_pos c, Option.bind_some, if_pos (by decide)]
    exact ⟨-1, rfl, .inl (by decide)⟩
  rw [if_neg c, Option.bind_some, if_neg c]
  obtain ⟨a, ha⟩ : ∃ a : Int, a = 1048576 - (l2.length : Int) := ⟨_, rfl⟩
  rw [← ha]
  unfold laws_szDirentS.f
  have hw2 : wrap64 (a - (l.length : Int)) = a - (l.length : Int) := by unfold wrap64; omega
  rw [hw2]
  by_cases c2 : a - (l.length : Int) < 0
  · rw [if_pos c2, Option.bind_some, if_pos (by decide)]
    exact ⟨-1, rfl, .inl (by decide)⟩
  rw [if_neg c2]
  obtain ⟨r, hr, hq⟩ := szd_l0 l hs (by omega) l.length 0 (l.length + 1) (a - (l.length : Int)) (by omega) (by omega) (by omega) (by omega)
  rw [Int.natCast_zero] at hr
  rw [hr, Option.bind_some]
  rcases hq with hq | ⟨hq, hq2⟩
  · rw [if_pos hq]
    exact ⟨-1, rfl, .inl (by decide)⟩
  · rw [if_neg (by omega)]
    exact ⟨r, rfl, .inr ⟨hq, by omega, by omega, by simpa using hq2⟩⟩
theorem szAns_told (c n : Int) (A2 : Option Addr) (c2 : Nat) (l2 : List Int) (st : List Int) (A13 : Option Addr) (c13 : Nat) (l13 : List S142) (us : List Int) (w : World) (r : Int) (h1 : st.length = 10) (h2 : us.length = 10) (hr2 : Kd.C (Kd.int .u8) w A2 l2.length l2) (hc2 : l2.length ≤ c2) (hr13 : Kd.C k142 w A13 l13.length l13) (hc13 : l13.length ≤ c13)
    (h : ((laws_szByteS.f l2 1048576).bind fun t105 => (if t105 < 0 then (some (-1)) else ((laws_szDirentS.f (l13.length + 1) l13 t105).bind fun t106 => (if t106 < 0 then (some (-1)) else (some t106))))) = some r) :
    Calls Tryd.prog 8 #[.agg (ansC c n (.slice A2 l2.length c2) st (.slice A13 l13.length c13) us).toArray, .int .i64 1048576] w fun e w' => e = .returned (.int .i64 r) ∧ Below w.heap.size w w' := by
  obtain ⟨_, _, _, _, _, _, _, _, _, _, rfl⟩ := ten h1
  obtain ⟨_, _, _, _, _, _, _, _, _, _, rfl⟩ := ten h2
  exact laws_szAns.calls (l13.length + 1) c n A2 c2 l2 _ _ _ _ _ _ _ _ _ _ A13 c13 l13 _ _ _ _ _ _ _ _ _ _ 1048576 r w hr2 hc2 hr13 hc13 h
theorem eqd_l0 (l : List S82) (hl : l.length ≤ 100000000) : ∀ (d i k : Nat), i + d = l.length → d < k → laws_eqDirentS.l0 k l l (i : Int) = some true
  | 0, i, k, h1, h3 => by
    obtain ⟨k, rfl⟩ : ∃ m, k = m + 1 := ⟨k - 1, by omega⟩
    simp only [laws_eqDirentS.l0]
    rw [if_neg (by omega)]
  | d + 1, i, k, h1, h3 => by
    obtain ⟨k, rfl⟩ : ∃ m, k = m + 1 := ⟨k - 1, by omega⟩
    simp only [laws_eqDirentS.l0]
    have hi : i < l.length := by omega
    have e : ∀ (x : ByteArray) (y z : Int), laws_eqDirent.f x y z x y z = some true := by
      intro x y z
      unfold laws_eqDirent.f
      rw [if_pos rfl, if_pos rfl, if_pos rfl]
    rw [if_pos (by omega), if_pos (by omega), if_pos (by omega), e, Option.bind_some, if_pos rfl, w1_ i l.length hi hl]
    exact eqd_l0 l hl d (i + 1) k (by omega) (by omega)
theorem eqb_l0 (l : List Int) (hl : l.length ≤ 100000000) : ∀ (d i k : Nat), i + d = l.length → d < k → laws_eqByteS.l0 k l l (i : Int) = some true
  | 0, i, k, h1, h3 => by
    obtain ⟨k, rfl⟩ : ∃ m, k = m + 1 := ⟨k - 1, by omega⟩
    simp only [laws_eqByteS.l0]
    rw [if_neg (by omega)]
  | d + 1, i, k, h1, h3 => by
    obtain ⟨k, rfl⟩ : ∃ m, k = m + 1 := ⟨k - 1, by omega⟩
    simp only [laws_eqByteS.l0]
    have hi : i < l.length := by omega
    rw [if_pos (by omega), if_pos (by omega), if_pos (by omega), if_pos trivial, w1_ i l.length hi hl]
    exact eqb_l0 l hl d (i + 1) k (by omega) (by omega)
/-- a struct of an answer whose rows are read -/
def AnsV (w : World) (c n : Int) (l2 st : List Int) (l13 : List S82) (us : List Int) (AP : Array Value) : Prop := ∃ A2 c2 A13 c13, AP = (ansC c n (.slice A2 l2.length c2) st (.slice A13 l13.length c13) us).toArray ∧ Kd.C (Kd.int .u8) w A2 l2.length l2 ∧ l2.length ≤ c2 ∧ Kd.C k82 w A13 l13.length l13 ∧ l13.length ≤ c13
theorem AnsV.below {w w' : World} {c n : Int} {l2 st : List Int} {l13 : List S82} {us : List Int} {AP : Array Value} (h : AnsV w c n l2 st l13 us AP) (hb : Below w.heap.size w w') : AnsV w' c n l2 st l13 us AP := by
  obtain ⟨A2, c2, A13, c13, e, h1, h2, h3, h4⟩ := h
  exact ⟨A2, c2, A13, c13, e, Kd.C_below h1 hb, h2, Kd.C_below h3 hb, h4⟩
theorem eqAns_told {c n : Int} {l2 st : List Int} {l13 : List S82} {us : List Int} {AP AQ : Array Value} (w : World) (h1 : st.length = 10) (h2 : us.length = 10) (hl2 : l2.length ≤ 1048576) (hl13 : l13.length ≤ 1048576) (ha : AnsV w c n l2 st l13 us AP) (hb : AnsV w c n l2 st l13 us AQ) :
    Calls Tryd.prog 12 #[.agg AP, .agg AQ] w fun e w' => e = .returned (.bool true) ∧ Below w.heap.size w w' := by
  obtain ⟨A2, c2, A13, c13, rfl, a1, a2, a3, a4⟩ := ha
  obtain ⟨B2, d2, B13, d13, rfl, b1, b2, b3, b4⟩ := hb
  obtain ⟨x0, x1, x2, x3, x4, x5, x6, x7, x8, x9, rfl⟩ := ten h1
  obtain ⟨y0, y1, y2, y3, y4, y5, y6, y7, y8, y9, rfl⟩ := ten h2
  refine laws_eqAns.calls (l2.length + l13.length + 1) c n A2 c2 l2 _ _ _ _ _ _ _ _ _ _ A13 c13 l13 _ _ _ _ _ _ _ _ _ _ c n B2 d2 l2 _ _ _ _ _ _ _ _ _ _ B13 d13 l13 _ _ _ _ _ _ _ _ _ _ true w a1 a2 a3 a4 b1 b2 b3 b4 ?_
  have e1 : laws_eqByteS.f (l2.length + l13.length + 1) l2 l2 = some true := by
    unfold laws_eqByteS.f
    rw [if_pos rfl]
    exact eqb_l0 l2 (by omega) l2.length 0 _ (by omega) (by omega)
  have e2 : laws_eqDirentS.f (l2.length + l13.length + 1) l13 l13 = some true := by
    unfold laws_eqDirentS.f
    rw [if_pos rfl]
    exact eqd_l0 l13 (by omega) l13.length 0 _ (by omega) (by omega)
  have e3 : laws_eqStat.f x0 x1 x2 x3 x4 x5 x6 x7 x8 x9 x0 x1 x2 x3 x4 x5 x6 x7 x8 x9 = some true := by
    unfold laws_eqStat.f
    rw [if_pos rfl, if_pos rfl, if_pos rfl, if_pos rfl, if_pos rfl, if_pos rfl, if_pos rfl, if_pos rfl, if_pos rfl, if_pos rfl]
  have e4 : laws_eqUsage.f y0 y1 y2 y3 y4 y5 y6 y7 y8 y9 y0 y1 y2 y3 y4 y5 y6 y7 y8 y9 = some true := by
    unfold laws_eqUsage.f
    rw [if_pos rfl, if_pos rfl, if_pos rfl, if_pos rfl, if_pos rfl, if_pos rfl, if_pos rfl, if_pos rfl, if_pos rfl, if_pos rfl]
  unfold laws_eqAns.f
  rw [if_pos rfl, if_pos rfl, e1, Option.bind_some, if_pos rfl, e3, Option.bind_some, if_pos rfl, e2, Option.bind_some, if_pos rfl, e4, Option.bind_some, if_pos rfl]
section
variable {P : Program} {o : Oper} {a : Act} {w : World}
theorem ch_ldw {t : TypeId} {x : Operand} {s n : Nat} {cs : Array Value} {tt : TypeId} {d : TypeDesc} (hw : w.heap[s]? = some (.cells cs tt (0, 0))) (hn : cs.size = n) (hi : (P.info? t).map (·.size) = some n := by kernel_rfl) (ho : o.op = .load t x := by rfl) (hx : a.eval x = .pointer (some ⟨s, 0, none⟩) := by rfl) (hu : P.underlying t = some d := by rfl) (hd : (match d with | .struct _ | .array _ _ => true | _ => false) = true := by rfl) : (execOp a.eval o).run P w = .ok (.value (.agg cs)) w := by
  unfold execOp
  simp only [ho, hx, Instr.loadAt, Instr.sureAddr, Sem.run_bind, Sem.run_pure, Result.andThen_ok, run_load_part w s 0 n tt t cs (0, 0) d hw hu hd hi (by omega)]
  rw [List.drop_zero, List.take_of_length_le (by simp [hn]), Array.toArray_toList]
end
theorem dirs_len (l : List S142) : (dirs l).length = l.length := by simp [dirs]
theorem dirs_good (l : List S142) (h : ∀ x ∈ l, I64 x.f1 ∧ I64 x.f2) (hs : ∀ x ∈ l, x.f0.size ≤ 1048576) : ∀ x ∈ dirs l, GoodX x := by
  intro x hx
  obtain ⟨y, hy, rfl⟩ := List.mem_map.1 hx
  exact ⟨hs y hy, (h y hy).1, (h y hy).2⟩
set_option maxHeartbeats 8000000 in
set_option maxRecDepth 100000 in
theorem law_told (c n : Int) (A2 : Option Addr) (c2 : Nat) (l2 : List Int) (st : List Int) (A13 : Option Addr) (c13 : Nat) (l13 : List S142) (us : List Int) (w : World) (h1 : st.length = 10) (h2 : us.length = 10) (hc : I64 c) (hn : I64 n) (hst : ∀ v ∈ st, I64 v) (hus : ∀ v ∈ us, I64 v) (hr2 : Kd.C (Kd.int .u8) w A2 l2.length l2) (hc2 : l2.length ≤ c2) (hm2 : l2.length ≤ 9223372036854775807) (hr13 : Kd.C k142 w A13 l13.length l13) (hc13 : l13.length ≤ c13) (hm13 : l13.length ≤ 9223372036854775807) (hx13 : ∀ x ∈ l13, I64 x.f1 ∧ I64 x.f2) (hs13 : ∀ x ∈ l13, x.f0.size ≤ 9223372036854775807) (ht : Tb w) :
    Calls Tryd.prog 3 #[.agg (ansC c n (.slice A2 l2.length c2) st (.slice A13 l13.length c13) us).toArray] w fun e w' => e = .returned (.bool true) ∧ Below w.heap.size w w' := by
  obtain ⟨s0, hs0⟩ : ∃ s, w.heap.size = s := ⟨_, rfl⟩
  have SB := Aside0.mk hs0
  rw [hs0]
  clear hs0
  obtain ⟨AC, hAC⟩ : ∃ a, a = (ansC c n (.slice A2 l2.length c2) st (.slice A13 l13.length c13) us).toArray := ⟨_, rfl⟩
  obtain ⟨r, hr, hq⟩ := szd_f l2 l13 hm2 hm13 hs13
  have KSZ : Aside0 (AC.size = 24) := ⟨by rw [hAC]; exact ansC_size h1 h2⟩
  have C2 := Aside0.mk hr2
  have C13 := Aside0.mk hr13
  have TZ : Aside0 (∀ w', Below s0 w w' → Calls Tryd.prog 8 #[.agg AC, .int .i64 1048576] w' fun e w'' => e = .returned (.int .i64 r) ∧ Below w'.heap.size w' w'') := ⟨fun w' hb => by rw [hAC]; exact szAns_told c n A2 c2 l2 st A13 c13 l13 us w' r h1 h2 (cbel C2 SB ⟨hb⟩) hc2 (cbel C13 SB ⟨hb⟩) hc13 hr⟩
  have TT : Aside0 (Fits l2 l13 → ∀ w', Below s0 w w' → Calls Tryd.prog 10 #[.agg AC] w' fun e w'' => ∃ AP, e = .returned (.agg AP) ∧ AP.size = 24 ∧ AP.toList.all (·.oneCell') = true ∧ AnsV w'' c n l2 st (dirs l13) us AP ∧ Below w'.heap.size w' w'') := ⟨fun hf w' hb => by
      rw [hAC]
      refine (toAns_told c n A2 c2 l2 st A13 c13 l13 us w' h1 h2 (cbel C2 SB ⟨hb⟩) hc2 (by have := hf.1; omega) (cbel C13 SB ⟨hb⟩) hc13 (by have := hf.2.1; omega)).mono ?_
      rintro e w'' ⟨v2, v13, rfl, o2, o13, b⟩
      obtain ⟨B2, d2, rfl, l_2, q2⟩ := Kd.R_reads o2
      obtain ⟨B13, d13, rfl, l_13, q13⟩ := Kd.R_reads o13
      exact ⟨_, rfl, ansC_size h1 h2, ansC_one rfl rfl, ⟨B2, d2, B13, d13, rfl, q2, l_2, q13, l_13⟩, b⟩⟩
  obtain ⟨T, hT⟩ : ∃ t, t = tellS c n l2 st (dirs l13) us := ⟨_, rfl⟩
  have TS : Aside0 (Fits l2 l13 → ∀ w' AP, AnsV w' c n l2 st (dirs l13) us AP → Calls Tryd.prog 9 #[.agg AP] w' fun e w'' => e = .returned (.string T) ∧ Below w'.heap.size w' w'') := ⟨fun hf w' AP hv => by
      obtain ⟨B2, d2, B13, d13, rfl, q2, l_2, q13, l_13⟩ := hv
      rw [hT]
      exact specTell_told c n B2 d2 l2 st B13 d13 (dirs l13) us w' h1 h2 hc hn hst hus q2 hf.1 q13 (by rw [dirs_len]; exact hf.2.1) (dirs_good l13 hx13 hf.2.2)⟩
  have TI : Aside0 (Fits l2 l13 → ∀ w' AP, Below s0 w w' → AnsV w' c n l2 st (dirs l13) us AP → Calls Tryd.prog 11 #[.agg AP] w' fun e w'' => e = .returned (.string T) ∧ Below w'.heap.size w' w'') := ⟨fun hf w' AP hb hv => by
      obtain ⟨B2, d2, B13, d13, rfl, q2, l_2, q13, l_13⟩ := hv
      rw [hT]
      exact implTell_told c n B2 d2 l2 st B13 d13 (dirs l13) us w' h1 h2 hc hn hst hus q2 hf.1 q13 (by rw [dirs_len]; exact hf.2.1) (dirs_good l13 hx13 hf.2.2) (ht.below (bw_ SB ⟨hb⟩))⟩
  have TE : Aside0 (Fits l2 l13 → ∀ w' AP AQ, AnsV w' c n l2 st (dirs l13) us AP → AnsV w' c n l2 st (dirs l13) us AQ → Calls Tryd.prog 12 #[.agg AP, .agg AQ] w' fun e w'' => e = .returned (.bool true) ∧ Below w'.heap.size w' w'') := ⟨fun hf w' AP AQ ha hb => eqAns_told w' h1 h2 hf.1 (by rw [dirs_len]; exact hf.2.1) ha hb⟩
  have HQ := Aside0.mk hq
  obtain ⟨zz, hzz⟩ : ∃ z, z = List.replicate 10 (0 : Int) := ⟨_, rfl⟩
  have NZ := Aside0.mk (show zz.length = 10 by rw [hzz]; simp)
  obtain ⟨z36, hz36⟩ : ∃ z, z = (ansC 0 0 (.slice none 0 0) zz (.slice none 0 0) zz).toArray := ⟨_, rfl⟩
  have Z36 : ∀ w, (zeroValue 36).run Tryd.prog w = .ok (.agg z36) w := fun _ => by rw [hz36, hzz]; kernel_rfl
  have ZSZ : Aside0 (z36.size = 24) := ⟨by rw [hz36]; exact ansC_size NZ.out NZ.out⟩
  rw [← hAC]
  clear hAC hr hq hz36 hzz hT hr2 hr13 hc hn hst hus ht hc2 hm2 hc13 hm13 hx13 hs13 h1 h2
  go_enter Tryd.func3, Tryd.ntmps3
  go_upto_if 11 with (first | ((with_reducible refine gate_dst (N := 1) rfl ?_); refine hx_box rfl 1 rfl 29 (.tmp 0) rfl SB (.agg AC) AC rfl (by simp [Value.cells]) ?_; intro wm s1 L1 S1 b_ g_; have H0 := Aside0.mk g_; have HB : Aside0 (Below s0 w wm) := ⟨by rw [SB.out] at b_; exact b_⟩; clear b_ g_ L1 S1) | ((with_reducible refine gate_dst (N := 7) rfl ?_); refine hx_load rfl 29 (.tmp 1) rfl s0 24 rfl Tryd.underlying29 rfl (by kernel_rfl) H0.out KSZ.out ?_) | ((with_reducible refine gate_dst (N := 9) rfl ?_); refine goesL_ (some 9) rfl rfl Tryd.func8 (by kernel_rfl) rfl #[.agg AC, .int .i64 1048576] rfl (by (try simp only [List.map_toArray, List.map_cons, List.map_nil]); first | done | rfl) ?_; refine (TZ.out _ HB.out).mono ?_; rintro e_ wq ⟨rfl, b_⟩; refine ⟨_, rfl, ?_⟩; have H0n := Aside0.mk (blk_below H0.out b_); have HBn := Aside0.mk (below_then HB.out (blk_lt' H0 HB) b_); clear b_; clear H0 HB; have H0 := H0n; have HB := HBn; clear H0n HBn; obtain ⟨wm, rfl⟩ : ∃ x, x = wq := ⟨_, rfl⟩))
  by_cases cr : r < 0
  case pos =>
    have cr0 : decide (r < 0) = true := decide_eq_true cr
    clear cr
    rw [cr0]
    go_wp2
    go_ret
    exact ⟨rfl, HB.out⟩
  have cr0 : decide (r < 0) = false := decide_eq_false cr
  have FT : Aside0 (Fits l2 l13) := ⟨(HQ.out.resolve_left cr).2⟩
  clear cr HQ
  rw [cr0]
  go_upto_region 10 with (first | ((with_reducible refine gate_dst (N := 12) rfl ?_); refine hx_load rfl 29 (.tmp 1) rfl s0 24 rfl Tryd.underlying29 rfl (by kernel_rfl) H0.out KSZ.out ?_) | ((with_reducible refine gate_dst (N := 13) rfl ?_); refine goesL_ (some 13) rfl rfl Tryd.func10 (by kernel_rfl) rfl #[.agg AC] rfl (by (try simp only [List.map_toArray, List.map_cons, List.map_nil]); first | done | rfl) ?_; refine (TT.out FT.out _ HB.out).mono ?_; rintro e_ wq ⟨A1, rfl, hz_, ho_, hv_, b_⟩; refine ⟨_, rfl, ?_⟩; have H0n := Aside0.mk (blk_below H0.out b_); have HBn := Aside0.mk (below_then HB.out (blk_lt' H0 HB) b_); have V1 := Aside0.mk hv_; clear hz_ ho_ hv_; clear b_; clear H0 HB; have H0 := H0n; have HB := HBn; clear H0n HBn; obtain ⟨wm, rfl⟩ : ∃ x, x = wq := ⟨_, rfl⟩) | ((with_reducible refine gate_dst (N := 14) rfl ?_); refine goesL_ (some 14) rfl rfl Tryd.func9 (by kernel_rfl) rfl #[.agg A1] rfl (by (try simp only [List.map_toArray, List.map_cons, List.map_nil]); first | done | rfl) ?_; refine (TS.out FT.out _ _ V1.out).mono ?_; rintro e_ wq ⟨rfl, b_⟩; refine ⟨_, rfl, ?_⟩; have H0n := Aside0.mk (blk_below H0.out b_); have HBn := Aside0.mk (below_then HB.out (blk_lt' H0 HB) b_); clear V1; clear b_; clear H0 HB; have H0 := H0n; have HB := HBn; clear H0n HBn; obtain ⟨wm, rfl⟩ : ∃ x, x = wq := ⟨_, rfl⟩) | ((with_reducible refine gate_dst (N := 15) rfl ?_); refine hx_load rfl 29 (.tmp 1) rfl s0 24 rfl Tryd.underlying29 rfl (by kernel_rfl) H0.out KSZ.out ?_) | ((with_reducible refine gate_dst (N := 16) rfl ?_); refine goesL_ (some 16) rfl rfl Tryd.func10 (by kernel_rfl) rfl #[.agg AC] rfl (by (try simp only [List.map_toArray, List.map_cons, List.map_nil]); first | done | rfl) ?_; refine (TT.out FT.out _ HB.out).mono ?_; rintro e_ wq ⟨AP, rfl, hz_, ho_, hv_, b_⟩; refine ⟨_, rfl, ?_⟩; have H0n := Aside0.mk (blk_below H0.out b_); have HBn := Aside0.mk (below_then HB.out (blk_lt' H0 HB) b_); have V2 := Aside0.mk hv_; have PZ := Aside0.mk hz_; have PO := Aside0.mk ho_; clear hz_ ho_ hv_; obtain ⟨w2, hw2⟩ : ∃ x, x = wq := ⟨_, rfl⟩; have HB2 : Aside0 (Below w2.heap.size w2 wq) := ⟨by rw [hw2]; exact Below.refl _ _⟩; rw [← hw2] at V2; have S02 : Aside0 (s0 < w2.heap.size) := ⟨by rw [hw2]; exact Nat.lt_of_lt_of_le (blk_lt H0.out) b_.size⟩; clear hw2; clear b_; clear H0 HB; have H0 := H0n; have HB := HBn; clear H0n HBn; obtain ⟨wm, rfl⟩ : ∃ x, x = wq := ⟨_, rfl⟩) | ((with_reducible refine gate_dst (N := 5) rfl ?_); refine ex_alloc rfl 5 rfl 36 rfl (.agg z36) z36 Z36 (by simp [Value.cells]) ?_; intro sa wq SA SAq b_ g_; have HA := Aside0.mk g_; have S0A : Aside0 (s0 < sa) := ⟨by rw [← SA.out]; exact blk_lt H0.out⟩; have S2A : Aside0 (w2.heap.size ≤ sa) := ⟨by rw [← SA.out]; exact HB2.out.size⟩; clear g_ SAq SA; have H0n := Aside0.mk (blk_below H0.out b_); have HBn := Aside0.mk (below_then HB.out (blk_lt' H0 HB) b_); have HB2n := Aside0.mk (below_then HB2.out HB2.out.size b_); clear b_; clear H0 HB HB2; have H0 := H0n; have HB := HBn; have HB2 := HB2n; clear H0n HBn HB2n; obtain ⟨wm, rfl⟩ : ∃ x, x = wq := ⟨_, rfl⟩) | ((with_reducible refine gate_store (t := 36) (p := 5) (v := .tmp 16) rfl ?_); refine hx_store rfl rfl 36 (.tmp 5) (.tmp 16) rfl sa 24 rfl AP rfl (by kernel_rfl) PZ.out PO.out HA.out ZSZ.out ?_; intro wq t_ g_; have HAn := Aside0.mk g_; have H0n := Aside0.mk (t_.keep (show s0 ≠ sa by have := S0A.out; omega) H0.out); have HBn := Aside0.mk (t_.below HB.out (by have := S0A.out; omega)); have HB2n := Aside0.mk (t_.below HB2.out S2A.out); clear t_ g_; clear HA H0 HB HB2; have HA := HAn; have H0 := H0n; have HB := HBn; have HB2 := HB2n; clear HAn H0n HBn HB2n; obtain ⟨wm, rfl⟩ : ∃ x, x = wq := ⟨_, rfl⟩) | ((with_reducible refine gate_dst (N := 17) rfl ?_); refine hx_load rfl 36 (.tmp 5) rfl sa 24 rfl Tryd.underlying36 rfl (by kernel_rfl) HA.out PZ.out ?_) | ((with_reducible refine gate_dst (N := 18) rfl ?_); refine goesL_ (some 18) rfl rfl Tryd.func11 (by kernel_rfl) rfl #[.agg AP] rfl (by (try simp only [List.map_toArray, List.map_cons, List.map_nil]); first | done | rfl) ?_; refine (TI.out FT.out _ _ HB.out (V2.out.below HB2.out)).mono ?_; rintro e_ wq ⟨rfl, b_⟩; refine ⟨_, rfl, ?_⟩; have H0n := Aside0.mk (blk_below H0.out b_); have HAn := Aside0.mk (blk_below HA.out b_); have HBn := Aside0.mk (below_then HB.out (blk_lt' H0 HB) b_); have HB2n := Aside0.mk (below_then HB2.out HB2.out.size b_); clear b_; clear H0 HA HB HB2; have H0 := H0n; have HA := HAn; have HB := HBn; have HB2 := HB2n; clear H0n HAn HBn HB2n; obtain ⟨wm, rfl⟩ : ∃ x, x = wq := ⟨_, rfl⟩))
  refine wp_region_held (S := fun w_ => w_.heap[s0]? = some (.cells AC 29 (0, 0)) ∧ w_.heap[sa]? = some (.cells AP 36 (0, 0))) (by kernel_rfl) ?_
  obtain ⟨wr, hd⟩ : ∃ wd, wd = wm.drew := ⟨_, rfl⟩
  rw [show ({ wm with drawn := wm.drawn + 1 } : World) = wr from hd.symm]
  have b_ : Below wm.heap.size wm wr := by rw [hd]; exact (Below.refl _ _).drew
  clear hd
  obtain ⟨wq, rfl⟩ : ∃ x, x = wr := ⟨_, rfl⟩
  have H0n := Aside0.mk (blk_below H0.out b_)
  have HAn := Aside0.mk (blk_below HA.out b_)
  have HBn := Aside0.mk (below_then HB.out (blk_lt' H0 HB) b_)
  have HB2n := Aside0.mk (below_then HB2.out HB2.out.size b_)
  clear b_
  clear H0 HA HB HB2
  have H0 := H0n
  have HA := HAn
  have HB := HBn
  have HB2 := HB2n
  clear H0n HAn HBn HB2n
  obtain ⟨wm, rfl⟩ : ∃ x, x = wq := ⟨_, rfl⟩
  refine wpAnyH_take (i := 0) (v := .agg AP) rfl (by kernel_rfl) (by kernel_rfl) (by kernel_rfl) (fun _ _ _ h => h) (.inl ⟨rfl, fun w_ hS_ => ?_⟩) ⟨H0.out, HA.out⟩ ?_
  · exact ch_ldw hS_.2 PZ.out
  simp only [List.getElem_toArray, List.getElem_cons_succ, List.getElem_cons_zero, Act.put, List.setIfInBounds_toArray, List.set_cons_succ, List.set_cons_zero]
  refine wpAnyH_take (i := 1) (v := .agg AC) rfl (by kernel_rfl) (by kernel_rfl) (by kernel_rfl) (fun _ _ _ h => h) (.inl ⟨rfl, fun w_ hS_ => ?_⟩) ⟨H0.out, HA.out⟩ ?_
  · exact ch_ldw hS_.1 KSZ.out
  simp only [List.getElem_toArray, List.getElem_cons_succ, List.getElem_cons_zero, Act.put, List.setIfInBounds_toArray, List.set_cons_succ, List.set_cons_zero]
  refine onlyH 2 (by kernel_rfl) ?_
  refine op_call rfl rfl Tryd.func10 (by kernel_rfl) rfl rfl #[.agg AC] (by (try simp only [List.map_toArray, List.map_cons, List.map_nil]); first | done | rfl) ?_
  refine (TT.out FT.out _ HB.out).mono ?_
  rintro e_ wq ⟨A3, rfl, hz_, ho_, hv_, b_⟩
  refine ⟨_, rfl, ⟨blk_below H0.out b_, blk_below HA.out b_⟩, ?_⟩
  have H0n := Aside0.mk (blk_below H0.out b_)
  have HAn := Aside0.mk (blk_below HA.out b_)
  have HBn := Aside0.mk (below_then HB.out (blk_lt' H0 HB) b_)
  have HB2n := Aside0.mk (below_then HB2.out HB2.out.size b_)
  have V3 := Aside0.mk hv_
  clear hz_ ho_ hv_
  clear b_
  clear H0 HA HB HB2
  have H0 := H0n
  have HA := HAn
  have HB := HBn
  have HB2 := HB2n
  clear H0n HAn HBn HB2n
  obtain ⟨wm, rfl⟩ : ∃ x, x = wq := ⟨_, rfl⟩
  simp only [List.getElem_toArray, List.getElem_cons_succ, List.getElem_cons_zero, Act.put, List.setIfInBounds_toArray, List.set_cons_succ, List.set_cons_zero]
  refine onlyH 3 (by kernel_rfl) ?_
  refine op_call rfl rfl Tryd.func12 (by kernel_rfl) rfl rfl #[.agg AP, .agg A3] (by (try simp only [List.map_toArray, List.map_cons, List.map_nil]); first | done | rfl) ?_
  refine (TE.out FT.out _ _ _ (V2.out.below HB2.out) V3.out).mono ?_
  rintro e_ wq ⟨rfl, b_⟩
  refine ⟨_, rfl, ⟨blk_below H0.out b_, blk_below HA.out b_⟩, ?_⟩
  have H0n := Aside0.mk (blk_below H0.out b_)
  have HAn := Aside0.mk (blk_below HA.out b_)
  have HBn := Aside0.mk (below_then HB.out (blk_lt' H0 HB) b_)
  have HB2n := Aside0.mk (below_then HB2.out HB2.out.size b_)
  clear b_
  clear H0 HA HB HB2
  have H0 := H0n
  have HA := HAn
  have HB := HBn
  have HB2 := HB2n
  clear H0n HAn HBn HB2n
  obtain ⟨wm, rfl⟩ : ∃ x, x = wq := ⟨_, rfl⟩
  simp only [List.getElem_toArray, List.getElem_cons_succ, List.getElem_cons_zero, Act.put, List.setIfInBounds_toArray, List.set_cons_succ, List.set_cons_zero]
  refine wpAnyH_take (i := 4) (v := .bool false) rfl (by kernel_rfl) (by kernel_rfl) (by kernel_rfl) (fun _ _ _ h => h) (.inl ⟨rfl, fun w_ hS_ => ?_⟩) ⟨H0.out, HA.out⟩ ?_
  · (unfold execOp; go_simp; (try rfl))
  simp only [List.getElem_toArray, List.getElem_cons_succ, List.getElem_cons_zero, Act.put, List.setIfInBounds_toArray, List.set_cons_succ, List.set_cons_zero]
  refine wpAnyH_done (by kernel_rfl) ?_ _
  go_wp2
  go_ret
  exact ⟨rfl, HB.out⟩
end Go.Proofs.YtknlpjoidjgciaaDoor.PFnExactTellAns
