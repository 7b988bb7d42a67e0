/- TellAns: Itoa and colons. -/
import Derived.Test.YtknlpjoidjgciaaDoorTlb
import Derived.Test.YtknlpjoidjgciaaDoorWShelfT
namespace Go.Proofs.YtknlpjoidjgciaaDoor.PFnExactTellAns
open Go.RowKit Go.Proofs.YtknlpjoidjgciaaDoorW.PrintWords Go.Proofs.YtknlpjoidjgciaaDoorW.PrintLast Go.Proofs.YtknlpjoidjgciaaDoorW.PrintMore
open Go.Proofs.YtknlpjoidjgciaaDoorW Go.Proofs.YtknlpjoidjgciaaDoorW.PrintHand Go.Proofs.YtknlpjoidjgciaaDoorW.PrintHx
attribute [local go_sem] max2_int min2_int max_two min_two max_three min_three max_four min_four
set_option linter.unusedVariables false
set_option linter.unusedSimpArgs false

def powN : String := "internal/strconv.uint64pow10"
/-- the table of powers that Itoa reads -/
def Tb (w : World) : Prop := Lib.TabIs Tryd.prog w powN .u64 Lib.pow10Tab
theorem Tb.below {w w' : World} (h : Tb w) (hb : Below w.heap.size w w') : Tb w' := by
  unfold Tb Lib.TabIs World.var? at h ⊢
  cases hg : Tryd.prog.globalNamed powN with
  | none => rw [hg] at h; cases h
  | some g =>
    rw [hg] at h
    simp only [Option.bind_some] at h ⊢
    have hlt : g < w.heap.size := by
      rcases Nat.lt_or_ge g w.heap.size with h' | h'
      · exact h'
      · rw [Array.getElem?_eq_none h'] at h; cases h
    rw [hb.block g hlt]
    exact h
theorem Itoa_told (v : Int) (h0 : -9223372036854775808 ≤ v) (h1 : v ≤ 9223372036854775807) (w : World) (ht : Tb w) : Calls Tryd.prog 50 #[.int .i64 v] w fun e w' => e = .returned (.string (decS v)) ∧ Below w.heap.size w w' := by
  refine (Tryd.strconv_Itoa v h0 h1 w ht).mono ?_
  rintro e w' ⟨rfl, k, os, rfl⟩
  exact ⟨rfl, rfl, rfl, rfl, by rw [Sort.size_grow]; exact Nat.le_add_right _ _, fun j hj => Sort.heap_grow_old (w.drewN k) os hj⟩
theorem info9 : (Tryd.prog.info? 9).map (fun i => (i.zero, i.size, i.bytes)) = some (some (.string ByteArray.empty), 1, 16) := by kernel_rfl
section
variable {ops : Array Oper} {rest : List Oper} {o : Oper} {a : Act} {w : World} {Q : Exit → Act → World → Prop} {w0 : World}
theorem ex_puts (base : Nat) (hgd : o.guard = none) (hN : o.dst = none) (p x : Operand) (ho : o.op = .store 9 p x) {g c off : Nat} (j : Nat) (xs : List ByteArray) (s : ByteArray) (hp : a.eval p = .pointer (some ⟨g, off, none⟩)) (hoff : off = j) (hx : a.eval x = .string s)
    (HO : Kd.R Kd.string 9 w base (fun _ => True) (.slice (some ⟨g, 0, none⟩) xs.length c) xs) (hj : j < xs.length) (HB : Below base w0 w)
    (h : ∀ w1, Kd.R Kd.string 9 w1 base (fun _ => True) (.slice (some ⟨g, 0, none⟩) xs.length c) (xs.set j s) → Below base w0 w1 → w.grownBy w1 (some g) → wpList Tryd.prog ops Q rest a w1) : wpList Tryd.prog ops Q (o :: rest) a w := by
  obtain ⟨cc, hcl, hM, hcc, _⟩ := Kd.R_elem HO ByteArray.empty (j : Int) (by omega) (by omega)
  have hcl' : cc.length = 1 := hcl
  refine Kd.R_store Kd.string (w0 := w0) base hN hgd 9 p x ho 9 (j : Int) 0 xs s (.string s) [.string s] cc (fun _ => True) (fun k => True ∧ k ≠ g) hp (by rw [hoff, Int.toNat_natCast]; show j = j * 1 + 0; omega) hx rfl (by kernel_rfl) (fun q hq => by rw [List.mem_singleton.1 hq]; rfl) HO (by omega) (by omega) hcl hcc (Nat.le_refl 1) ?_ (fun k hk => hk) HB (fun w1 h1 h2 h3 => h w1 (by rw [Int.toNat_natCast] at h1; exact h1) h2 h3)
  rw [List.take_zero, List.nil_append, List.drop_eq_nil_of_le (by simp; omega), List.append_nil]
  rfl
end
set_option maxHeartbeats 8000000 in
set_option maxRecDepth 100000 in
theorem Colons_told (A0 : Option Addr) (c0 : Nat) (ns : List Int) (w : World) (ht : Tb w) (hr0 : Kd.C (Kd.int .i64) w A0 ns.length ns) (hl1 : 1 ≤ ns.length) (hl : ns.length ≤ 100) (hn : ∀ v ∈ ns, -9223372036854775808 ≤ v ∧ v ≤ 9223372036854775807) : Calls Tryd.prog 52 #[.slice A0 ns.length c0] w fun e w' => e = .returned (.string (joinS ns)) ∧ Below w.heap.size w w' := by
  have HT := Aside0.mk ht
  have HR0 := Aside0.mk hr0
  have HL1 := Aside0.mk hl1
  have HL := Aside0.mk hl
  have HN := Aside0.mk hn
  clear ht hr0 hl hl1 hn
  go_enter Tryd.func52, Tryd.ntmps52
  go_wp2_with (first | ((with_reducible refine gate_dst (N := 8) rfl ?_); refine Kd.R_make Kd.string (w0 := w) w.heap.size 9 rfl (N := 8) rfl 40 _ _ rfl (ns.length : Int) rfl rfl Tryd.underlying40 (.string ByteArray.empty) 16 info9 rfl (by decide) (by omega) ByteArray.empty (ok := fun _ => True) (okp := fun _ => True) rfl (fun _ hk => hk) trivial (by omega) (by have := HL.out; rw [Int.toNat_natCast]; omega) (Below.refl _ _) (Nat.le_refl _) ?_; intro vm wm om_ bm_ hg_ hnew_; clear hg_ hnew_; rw [Int.toNat_natCast] at om_; have hle_ := HL1.out; obtain ⟨gO, cO, rfl, _⟩ := Kd.R_form om_ (by simp; omega); rw [List.length_replicate] at om_; simp only [List.length_replicate]; have OM := Aside0.mk om_; have BM := Aside0.mk bm_; clear om_ bm_ hle_))
  (try simp only [Act.put, List.setIfInBounds_toArray, List.set_cons_succ, List.set_cons_zero])
  go_loopg [11] ns.length (fun kq v11 wr => ∃ i : Nat, v11 = .int .i64 (i : Int) ∧ Aside0 (kq + i = ns.length) ∧ Aside0 (Kd.R Kd.string 9 wr w.heap.size (fun _ => True) (.slice (some ⟨gO, 0, none⟩) ns.length cO) ((ns.take i).map decS ++ List.replicate (ns.length - i) ByteArray.empty)) ∧ Aside0 (Below w.heap.size w wr))
  case atStart => exact ⟨0, rfl, ⟨by simp⟩, ⟨by simpa using OM.out⟩, BM⟩
  case round =>
    clear OM BM
    obtain ⟨i, rfl, hki, O, HB⟩ := hrel
    obtain ⟨wn, rfl⟩ : ∃ x, x = wr := ⟨_, rfl⟩
    by_cases ci : i < ns.length
    case pos =>
      have ci0 : decide ((i : Int) < (ns.length : Int)) = true := decide_eq_true (by omega)
      have ci1 : decide (i < ns.length) = true := decide_eq_true ci
      have ci2 : ((i : Int) < (ns.length : Int)) = True := eq_true (by omega)
      have ci3 : (0 ≤ (i : Int)) = True := eq_true (by omega)
      have ci4 : (i < ns.length) = True := eq_true ci
      have CI := Aside0.mk ci
      clear ci
      have hw_ : wrap64 ((i : Int) + 1) = ((i + 1 : Nat) : Int) := by (have := CI.out; have := HL.out; unfold wrap64; omega)
      have hCR : Kd.C (Kd.int .i64) wn A0 ns.length ns := Kd.C_below HR0.out HB.out
      obtain ⟨ad, ea, hx⟩ := Kd.at_int hCR (i : Int) (by omega) (by have := CI.out; omega)
      cases ea
      obtain ⟨x, hxe⟩ : ∃ x, x = rd ns (i : Int) := ⟨_, rfl⟩
      rw [Int.toNat_natCast, ← hxe] at hx
      have HX : Aside0 (x = ns[i]'CI.out) := ⟨by rw [hxe, Tl.rd_some CI.out]⟩
      have RX : Aside0 (-9223372036854775808 ≤ x ∧ x ≤ 9223372036854775807) := ⟨by rw [HX.out]; exact HN.out _ (List.getElem_mem _)⟩
      clear hxe hCR
      obtain ⟨ys, hys⟩ : ∃ ys, ys = (ns.take i).map decS ++ List.replicate (ns.length - i) ByteArray.empty := ⟨_, rfl⟩
      have YL : Aside0 (ys.length = ns.length) := ⟨by rw [hys]; simp; have := CI.out; omega⟩
      have OY : Aside0 (Kd.R Kd.string 9 wn w.heap.size (fun _ => True) (.slice (some ⟨gO, 0, none⟩) ys.length cO) ys) := ⟨by rw [YL.out, hys]; exact O.out⟩
      have HY := Aside0.mk hys
      clear hys O
      go_wp2_with (first | ((with_reducible refine gate_dst (N := 19) rfl ?_); refine goesL_ (some 19) rfl rfl Tryd.func50 (by kernel_rfl) rfl #[.int .i64 x] rfl (by (try simp only [List.map_toArray, List.map_cons, List.map_nil]); first | done | rfl) ?_; refine (Itoa_told x RX.out.1 RX.out.2 _ (HT.out.below HB.out)).mono ?_; rintro e_ wm ⟨rfl, b_⟩; refine ⟨_, rfl, ?_⟩; have OY2 := Aside0.mk (Kd.R_below OY.out b_); have HB2 := Aside0.mk (below_then HB.out HB.out.size b_); clear b_ OY) | ((with_reducible refine gate_store (t := 9) (p := 20) (v := .tmp 19) rfl ?_); refine ex_puts (w0 := w) w.heap.size rfl rfl (.tmp 20) (.tmp 19) rfl i ys (decS x) rfl (by omega) rfl OY2.out (by rw [YL.out]; exact CI.out) HB2.out ?_; intro wp_ o3_ b3_ g3_; have O3 := Aside0.mk o3_; have HB3 := Aside0.mk b3_; clear o3_ b3_ g3_))
      cases gk with
      | zero => exact absurd CI.out (by have := hki.out; omega)
      | succ gk =>
        go_roundg gk
        case measure => omega
        case rel =>
          refine ⟨i + 1, by rw [hw_], ⟨by have := hki.out; omega⟩, ⟨?_⟩, HB3⟩
          have h3_ := O3.out
          have hj := CI.out
          have e_ : ys.set i (decS x) = (ns.take (i + 1)).map decS ++ List.replicate (ns.length - (i + 1)) ByteArray.empty := by
            have ht_ : ((ns.take i).map decS).length = i := by simp; omega
            rw [HY.out, List.set_append_right _ _ (by omega), ht_, Nat.sub_self, show ns.length - i = (ns.length - (i + 1)) + 1 by omega, List.replicate_succ, List.set_cons_zero, List.take_succ_eq_append_getElem hj, List.map_append, List.append_assoc, ← HX.out]
            rfl
          rw [e_, YL.out] at h3_
          exact h3_
    case neg =>
      have ci0 : decide ((i : Int) < (ns.length : Int)) = false := decide_eq_false (by omega)
      have ci1 : decide (i < ns.length) = false := decide_eq_false ci
      have O2 : Kd.R Kd.string 9 wn w.heap.size (fun _ => True) (.slice (some ⟨gO, 0, none⟩) ns.length cO) (ns.map decS) := by (have h_ := O.out; rw [List.take_of_length_le (by omega), show ns.length - i = 0 by omega, List.replicate_zero, List.append_nil] at h_; exact h_)
      have CS : Aside0 (∀ (j : Nat) x, (ns.map decS)[j]? = some x → wn.cell? ⟨gO, 0 + j, none⟩ = some (.string x)) := ⟨by
        intro j y hy
        obtain ⟨hj, hy2⟩ := List.getElem?_eq_some_iff.1 hy
        have hj2 : j < ns.length := by simpa using hj
        obtain ⟨cc, hcl, hM, hcc, _⟩ := Kd.R_elem O2 ByteArray.empty (j : Int) (by omega) (by omega)
        rw [Int.toNat_natCast] at hM hcc
        have e1 : cc = [.string ((ns.map decS).getD j ByteArray.empty)] := hM
        have e2 : (ns.map decS).getD j ByteArray.empty = y := by rw [List.getD_eq_getElem?_getD, hy]; rfl
        have h2_ := hcc 0 (.string y) (by rw [e1, e2]; rfl)
        have e3 : j * Kd.string.sz + 0 = 0 + j := by (show j * 1 + 0 = 0 + j; omega)
        rw [e3] at h2_
        exact h2_⟩
      have GL : Aside0 (gO < wn.heap.size) := ⟨by (obtain ⟨g', c', e', hb', hl', _⟩ := Kd.R_form O2 (by have := HL1.out; simp; omega); have q_ := congrArg Value.ownBlock e'; simp [Value.ownBlock] at q_; omega)⟩
      have CAP : Aside0 ((ns.map decS).length ≤ cO) := ⟨by have h_ := (Kd.R_reads' O2).2.1; simpa using h_⟩
      have JE : Aside0 ((ns.map decS).map (·.data.toList) = ns.map Lib.itoa) := ⟨by rw [List.map_map]; apply List.map_congr_left; intro v _; simp [decS, mkB]⟩
      have JL : Aside0 ((Lib.join ((ns.map decS).map (·.data.toList)) (⟨#[58]⟩ : ByteArray).data.toList).length ≤ 140737488355328) := ⟨by (rw [JE.out]; have h_ := joinS_size ns HN.out; rw [joinS, mkB_size] at h_; have := HL.out; show (Lib.join (ns.map Lib.itoa) [58]).length ≤ _; omega)⟩
      have JR : Aside0 ((⟨(Lib.join ((ns.map decS).map (·.data.toList)) (⟨#[58]⟩ : ByteArray).data.toList).toArray⟩ : ByteArray) = joinS ns) := ⟨by rw [JE.out]; rfl⟩
      clear ci hki O O2
      go_wp2_with (first | ((with_reducible refine gate_dst (N := 23) rfl ?_); refine goesL_ (some 23) rfl rfl Tryd.func90 (by kernel_rfl) rfl #[.slice (some ⟨gO, 0, none⟩) (ns.map decS).length cO, .string ⟨#[58]⟩] rfl (by (try simp only [List.map_toArray, List.map_cons, List.map_nil, List.length_map]); first | done | rfl) ?_; refine (Tryd.strings_Join gO 0 cO (ns.map decS) ⟨#[58]⟩ wn CS.out GL.out (by have := HL.out; simp; omega) CAP.out JL.out).mono ?_; rintro e_ wm ⟨he_, b_⟩; rw [JR.out] at he_; subst he_; refine ⟨_, rfl, ?_⟩; have HB2 := Aside0.mk (below_then HB.out HB.out.size b_); clear b_))
      go_ret
      exact ⟨rfl, HB2.out⟩
end Go.Proofs.YtknlpjoidjgciaaDoor.PFnExactTellAns
