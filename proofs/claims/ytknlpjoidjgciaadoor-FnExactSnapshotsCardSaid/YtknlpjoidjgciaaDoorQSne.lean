/- Snapshots: volume.snapshots, impl.Snapshots. -/
import Derived.StringKeys
import Derived.Test.YtknlpjoidjgciaaDoorQSnc
import Derived.Test.YtknlpjoidjgciaaDoorQPFnExactSnapshotsx14
import Derived.Test.YtknlpjoidjgciaaDoorQPFnExactSnapshotsx15
import Derived.Test.YtknlpjoidjgciaaDoorQPFnExactSnapshotsx9
import Derived.Test.YtknlpjoidjgciaaDoorQW2
namespace Go.Proofs.YtknlpjoidjgciaaDoor.PFnExactSnapshots
open Go Go.RowKit Go.Proofs.YtknlpjoidjgciaaDoorW.PrintWords Go.Proofs.YtknlpjoidjgciaaDoorW.PrintLast Go.Proofs.YtknlpjoidjgciaaDoorW.PrintMore Go.Proofs.YtknlpjoidjgciaaDoorW.PrintHand Go.Proofs.YtknlpjoidjgciaaDoorW.PrintHx Go.Proofs.YtknlpjoidjgciaaDoorW.PrintLe Go.Proofs.YtknlpjoidjgciaaDoorW.PrintIno Go.Proofs.YtknlpjoidjgciaaDoorW.PrintDec Go.Proofs.YtknlpjoidjgciaaDoorW.PrintFsi Go.Proofs.YtknlpjoidjgciaaDoorW.PrintFsb Go.Proofs.YtknlpjoidjgciaaDoorW.PrintFsd Go.Proofs.YtknlpjoidjgciaaDoorW.PrintCrc Go.Proofs.YtknlpjoidjgciaaDoorW.PrintGrow Go.Proofs.YtknlpjoidjgciaaDoorW.PrintSnp Go.Proofs.YtknlpjoidjgciaaDoorW.PrintSnd Go.Proofs.YtknlpjoidjgciaaDoorW.PrintRws Go.Proofs.YtknlpjoidjgciaaDoorW
open Go.Proofs.YtknlpjoidjgciaaDoorW.PrintChs Go.Proofs.YtknlpjoidjgciaaDoorW.PrintTab2
open Go.Maps
attribute [local go_sem] max2_int min2_int max_two min_two max_three min_three max_four min_four
set_option linter.unusedVariables false
set_option linter.unusedSimpArgs false
theorem volC_snaps {A : Option Addr} {n c : Nat} {L : List Int} {a : Int} (h : L.length = 68) : ((volC A n c L a).toArray.toList.drop 38).take 31 = (nums .i64 (fsS L)).toArray.toList := by
  show ((volC A n c L a).drop 38).take 31 = nums .i64 (fsS L)
  unfold volC fsS seg
  rw [List.drop_succ_cons, List.drop_append_of_le_length (by simp [nums, h]), List.take_append_of_le_length (by simp [nums, h])]
  simp [nums, List.map_take, List.map_drop]
section
variable {P : Program} {ops : Array Oper} {rest : List Oper} {o : Oper} {a : Act} {w : World} {Q : Exit → Act → World → Prop}
theorem ex_quo (hgd : o.guard = none) (t : TypeId) (x y : Operand) (ho : o.op = .binOp .quo t x y t) (p q : Nat) (hx : a.eval x = .int .i64 ((p : Nat) : Int)) (hy : a.eval y = .int .i64 ((q : Nat) : Int)) (hq : 0 < q) (hp : p < 9223372036854775807)
    (h : wpList P ops Q rest (a.put o.dst (.int .i64 ((p / q : Nat) : Int))) w) : wpList P ops Q (o :: rest) a w := by
  refine wpList_plain hgd fun K hK => ?_
  have hle : p / q ≤ p := Nat.div_le_self p q
  have e : IntKind.i64.wrap (Int.tdiv (p : Int) (q : Int)) = ((p / q : Nat) : Int) := by
    rw [show Int.tdiv (p : Int) (q : Int) = ((p / q : Nat) : Int) from rfl]
    generalize p / q = r at hle ⊢
    simp [IntKind.wrap, IntKind.bits, IntKind.signed]
    omega
  have hr : (binOp .quo t (.int .i64 (p : Int)) (.int .i64 (q : Int))).run P w = .ok (.int .i64 ((p / q : Nat) : Int)) w := by
    rw [← e]
    have hne : ¬ (q : Int) = 0 := by omega
    have hne2 : ¬ q = 0 := by omega
    rw [binOp_quo]
    simp [Op.intDiv, hne, hne2]
    try (rw [show (p : Int) / (q : Int) = Int.tdiv (p : Int) (q : Int) from rfl])
  have hg : (eqGuard .quo t x y (.int .i64 (p : Int)) (.int .i64 (q : Int))).run P w = .ok () w := by simp [eqGuard]
  unfold Oper.wp execOp
  simp only [ho, hx, hy, Sem.run_bind, hg, hr, Result.andThen_ok, Sem.run_pure, Oper.upon_value]
  exact hK _ _ h
theorem ex_look (hgd : o.guard = none) (m x : Operand) (t : TypeId) (ho : o.op = .lookup t m x false) (mb : Nat) (hm : a.eval m = .map (some mb)) (key : Value) (hx : a.eval x = key) (v : Value) (hr : (Instr.lookup t (.map (some mb)) key false).run P w = .ok v w)
    (h : wpList P ops Q rest (a.put o.dst v) w) : wpList P ops Q (o :: rest) a w := by
  refine wpList_plain hgd fun K hK => ?_
  unfold Oper.wp
  simp [execOp, ho, hm, hx, hr, Result.andThen]
  exact hK _ _ h
theorem ex_upd (hgd : o.guard = none) (m x v : Operand) (t : TypeId) (ho : o.op = Op.mapUpdate t m x v) (k e : TypeId) (K : Keyed P k) (ht : P.underlying t = some (.map k e)) (he : P.underlying e = some .bool) (b n : Nat) (l : List ByteArray)
    (hm : a.eval m = .map (some b)) (hown : w.ownsMap P k (plainElem P e) b n (setB l)) (hn : n < maxLen) (s : ByteArray) (hx : a.eval x = .string s) (hv : a.eval v = .bool true) (hkey : keyOf P k (.string s) = some (nameL s))
    (h : ∀ w', w'.ownsMap P k (plainElem P e) b (n + 1) (setB (l ++ [s])) → w.grownBy w' (some b) → wpList P ops Q rest (a.put o.dst undef) w') : wpList P ops Q (o :: rest) a w := by
  refine wpList_mapUpdate_own w hgd m x v t ho k e K ht (plainElem P e) b n (setB l) hm hown hn (.string s) (.bool true) (nameL s) hx hv hkey (.lit (.bool true)) [] (plainElem_bool he true) ?_
  intro w' h1 h2
  rw [← setB_snoc] at h1
  exact h w' h1 h2
theorem ex_mkmap (hgd : o.guard = none) (N : Tmp) (hN : o.dst = some N) (t : TypeId) (ho : o.op = .makeMap t none) (k e : TypeId)
    (h : ∀ (mb : Nat) (w' : World), Aside0 (w.heap.size = mb) → w'.ownsMap P k (plainElem P e) mb 0 (setB []) → Below w.heap.size w w' → wpList P ops Q rest (a.put (some N) (.map (some mb))) w') : wpList P ops Q (o :: rest) a w := by
  refine Go.Great.wpList_runTo hgd (some N) hN (.map (some w.heap.size)) (w.alloc (.map #[] 0)) ?_ (h _ _ ⟨rfl⟩ (World.ownsMap_made w P k _) (below_alloc (Below.refl _ _) _))
  unfold execOp
  simp only [ho, Sem.run_bind, Sem.run_pure]
  first | rfl | (simp [run_makeMap, Result.andThen]; done) | (rw [run_makeMap]; rfl)
end
theorem ownsMap_below {w w' : World} {P : Program} {k e : TypeId} {mb n : Nat} {D : DataW Unit} (h : w.ownsMap P k (plainElem P e) mb n D) (hb : Below w.heap.size w w') : w'.ownsMap P k (plainElem P e) mb n D := by
  obtain ⟨es, clock, h1, h2⟩ := h
  exact ⟨es, clock, by rw [hb.block mb (blk_lt h1)]; exact h1, h2⟩
theorem ownsMap_touch {w w' : World} {P : Program} {k e : TypeId} {mb n g : Nat} {D : DataW Unit} (h : w.ownsMap P k (plainElem P e) mb n D) (ht : PrintHand.Touch g w w') (hne : mb ≠ g) : w'.ownsMap P k (plainElem P e) mb n D := by
  obtain ⟨es, clock, h1, h2⟩ := h
  exact ⟨es, clock, ht.keep hne h1, h2⟩
theorem snD_size {l : List Int} (hb : Byt l) {b : Nat} {x : Int} {s : ByteArray} {p q : Int} {r : List Int} {k : Int} (h : snD l b = (x, s, p, q, r, k)) : s.size ≤ 512 := by
  unfold snD snapA decS at h
  split at h
  · simp only [Prod.mk.injEq] at h
    obtain ⟨_, rfl, _⟩ := h
    have h1 : (nameS (blk l b)).size ≤ (blk l b).length := by
      rw [nameS, strOf_size]
      unfold seg
      rw [List.length_take, List.length_drop]
      omega
    have h2 : (blk l b).length ≤ 512 := by
      unfold blk seg
      rw [List.length_take]
      omega
    omega
  · simp only [Prod.mk.injEq] at h
    obtain ⟨_, rfl, _⟩ := h
    exact Nat.zero_le _
set_option maxHeartbeats 8000000 in
set_option maxRecDepth 100000 in
theorem volSnaps_told (A0 : Option Addr) (c0 : Nat) (l0 : List Int) (L : List Int) (at_ : Int) (g : Nat) (w : World) (hg : w.heap[g]? = some (.cells (volC A0 l0.length c0 L at_).toArray 184 (0, 0))) (hch : chooseF (decA l0) l0 = (L, at_, 0)) (hv : Kd.C (Kd.int .u8) w (some ⟨2, 0, none⟩) 8 magicS) (hr0 : Kd.C (Kd.int .u8) w A0 l0.length l0) (hc0 : l0.length ≤ c0) (hl : l0.length ≤ 1048576) (hby : Byt l0) :
    Calls Tryd.prog 82 #[.pointer (some ⟨g, 0, none⟩)] w fun e w' => ∃ v ev : Value, e = .returned (.tuple #[v, ev]) ∧ (((snapsF l0).2 = 0 ∧ ev = .nilIface) ∨ ((snapsF l0).2 = 21 ∧ ev = .iface 152 (.int .i64 21))) ∧ Kd.R (cellsK 19) 131 w' w.heap.size (fun _ => True) v ((snapsF l0).1.map Sn.c) ∧ Below w.heap.size w w' := by
  have NL := Aside0.mk (choose_len hch)
  have HCH := Aside0.mk hch
  have HR0 := Aside0.mk hr0
  have HC0 := Aside0.mk hc0
  have HLM := Aside0.mk hl
  have HBY := Aside0.mk hby
  have HV := Aside0.mk hv
  have HG : Aside0 (∀ w', Below w.heap.size w w' → w'.heap[g]? = some (.cells (volC A0 l0.length c0 L at_).toArray 184 (0, 0))) := ⟨fun w' h_ => by rw [h_.block g (blk_lt hg)]; exact hg⟩
  obtain ⟨VC, hVC⟩ : ∃ v, v = (volC A0 l0.length c0 L at_).toArray := ⟨_, rfl⟩
  rw [← hVC] at HG
  have VS : Aside0 (VC.size = 75) := ⟨by rw [hVC]; exact volC_size NL.out⟩
  have V0 : Aside0 (VC[0]? = some (.slice A0 l0.length c0)) := ⟨by rw [hVC]; rfl⟩
  obtain ⟨F, hF⟩ : ∃ F, F = snapsF l0 := ⟨_, rfl⟩
  rw [← hF]
  have HF := Aside0.mk hF
  have HB := Aside0.mk (Below.refl w.heap.size w)
  obtain ⟨z1, hz1⟩ : ∃ z, z = (snapC 0 ByteArray.empty 0 0 (List.replicate 15 0)).toArray := ⟨_, rfl⟩
  have Z131 : ∀ w, (zeroValue 131).run Tryd.prog w = .ok (.agg z1) w := fun _ => by rw [hz1]; kernel_rfl
  have NZ1 := Aside0.mk (show z1.size = 19 by rw [hz1]; exact snapZ_size)
  have hi_ : (Tryd.prog.info? 131).map (fun i => (i.zero, i.size, i.bytes)) = some (some (.agg z1), 19, 160) := by rw [hz1]; kernel_rfl
  have HI := Aside0.mk hi_
  obtain ⟨PP, hPP⟩ : ∃ P, P = fsS L := ⟨_, rfl⟩
  have NP := Aside0.mk (show PP.length = 31 by rw [hPP, fsS]; exact seg_le _ _ (by rw [NL.out]; decide))
  have HPP := Aside0.mk hPP
  have VP : Aside0 ((VC.toList.drop 38).take 31 = (nums .i64 PP).toArray.toList) := ⟨by rw [hVC, hPP]; exact volC_snaps NL.out⟩
  have HKY : Aside0 (∀ s : ByteArray, s.size ≤ maxLen → keyOf Tryd.prog 9 (.string s) = some (nameL s)) := ⟨fun s hs => Go.WideMaps.keyOf_string_mk Tryd.underlying9 hs⟩
  have KL := string_keyed Tryd.underlying9
  have ZB : ∀ w, (zeroValue 4).run Tryd.prog w = .ok (.bool false) w := fun _ => by kernel_rfl
  clear hch hr0 hc0 hl hby hF hz1 hi_ hPP hVC hg hv
  go_enter Tryd.func82, Tryd.ntmps82
  go_wp2_with (first | ((with_reducible refine gate_dst (N := 10) rfl ?_); refine ex_mkmap rfl 10 rfl 185 rfl 9 4 ?_; intro mb wq MB_ hm_ b_; have MP : Aside0 (wq.ownsMap Tryd.prog 9 (plainElem Tryd.prog 4) mb ([] : List Sn).length (setB (([] : List Sn).map Sn.s))) := ⟨hm_⟩; have BM : Aside0 (w.heap.size ≤ mb) := ⟨by rw [← MB_.out]; exact HB.out.size⟩; clear hm_ MB_; have HBn := Aside0.mk (below_then HB.out HB.out.size b_); clear b_; clear HB; have HB := HBn; clear HBn; obtain ⟨wm, rfl⟩ : ∃ x, x = wq := ⟨_, rfl⟩) | ((with_reducible refine gate_dst (N := 15) rfl ?_); refine wpList_ld rfl 125 (.tmp 14) rfl g 38 31 rfl (nums .i64 PP).toArray Tryd.underlying125 rfl (by kernel_rfl) (HG.out _ HB.out) (by rw [VS.out]; decide) VP.out ?_))
  (try simp only [Act.put, List.setIfInBounds_toArray, List.set_cons_succ, List.set_cons_zero])
  go_loopw [4, 16] (fun v4 v16 wr => ∃ (i : Nat) (O : List Sn) (A7 : Option Addr) (c7 : Nat), v16 = .int .i64 (i : Int) ∧ v4 = .slice A7 O.length c7 ∧ Aside0 (i ≤ 31) ∧ Aside0 (snN l0 PP i = some O) ∧ Aside0 (Kd.R (cellsK 19) 131 wr w.heap.size (fun k_ => k_ ≠ mb) (.slice A7 O.length c7) (O.map Sn.c)) ∧ Aside0 (wr.ownsMap Tryd.prog 9 (plainElem Tryd.prog 4) mb O.length (setB (O.map Sn.s))) ∧ Aside0 (Below w.heap.size w wr)) (fun _ v16 _ => 31 - (intOf v16).toNat)
  case atStart => exact ⟨0, [], none, 0, rfl, rfl, ⟨by omega⟩, ⟨rfl⟩, ⟨Kd.R_nil _ _ _ _ _⟩, MP, HB⟩
  case round =>
    clear HB MP
    obtain ⟨i, O, A7, c7, rfl, rfl, hi, HN, OO, MP, HB⟩ := hrel
    obtain ⟨wm, rfl⟩ : ∃ x, x = wr := ⟨_, rfl⟩
    by_cases ci : i < 31
    case neg =>
      have e31 : i = 31 := by have := hi.out; omega
      have ci0 : decide ((i : Int) < 31) = false := decide_eq_false (by omega)
      have ci1 : decide (i < 31) = false := decide_eq_false ci
      have e_ : F = (O, 0) := by rw [HF.out, snapsF_good HCH.out, ← HPP.out]; exact snF_all e31 HN.out
      clear ci e31
      subst e_
      go_wp2
      go_ret2
      first | exact ⟨_, _, rfl, .inl ⟨rfl, rfl⟩, Kd.R_mono OO.out (fun _ _ => trivial), HB.out⟩ | exact ⟨_, _, rfl, rfl, Kd.R_mono OO.out (fun _ _ => trivial), HB.out⟩
    have ci0 : decide ((i : Int) < 31) = true := decide_eq_true (by omega)
    have ci1 : decide (i < 31) = true := decide_eq_true ci
    obtain ⟨b, hb, hb1, hb2, hb3⟩ := snap_place HCH.out NL.out i ci
    rw [← HPP.out] at hb
    have PB := Aside0.mk hb
    have PB1 := Aside0.mk hb1
    have PB3 := Aside0.mk hb3
    have CI := Aside0.mk ci
    have hw_ : wrap64 ((i : Int) + 1) = ((i + 1 : Nat) : Int) := by (have := CI.out; unfold wrap64; omega)
    clear hb hb1 hb2 hb3 ci
    obtain ⟨q0, Q0⟩ : ∃ q, Aside0 (((b : Int) == 0) = q) := ⟨_, ⟨rfl⟩⟩
    go_upto_if 21 with (first | ((with_reducible refine gate_dst (N := 19) rfl ?_); refine hx_index rfl 125 3 31 (.tmp 15) (.tmp 16) rfl PP i _ rfl rfl Tryd.underlying125 Tryd.underlying3 rfl (by kernel_rfl) NP.out CI.out ?_; rw [PB.out]) | ((with_reducible refine gate_dst (N := 21) rfl ?_); refine hx_eqi rfl 3 3 (.tmp 20) _ rfl Tryd.underlying3 (b : Int) 0 rfl rfl q0 Q0 ?_))
    cases q0
    case true =>
      have hb0 : b = 0 := by have := Q0.out; simpa using this
      go_wp2
      go_roundw
      case rel => exact ⟨i + 1, O, A7, c7, by first | rw [hw_] | rfl, rfl, ⟨by have := CI.out; omega⟩, ⟨snN_step HN.out (snStep_zero (by rw [PB.out, hb0]; rfl))⟩, OO, MP, HB⟩
      case measure =>
        (try rw [hw_])
        simp only [intOf, Int.toNat_natCast]
        have := CI.out
        omega
    case false =>
      have B0 : Aside0 (b ≠ 0) := ⟨fun h_ => by have := Q0.out; rw [h_] at this; simp at this⟩
      obtain ⟨x, s, p, q, r, k, hd⟩ : ∃ x s p q r k, snD l0 b = (x, s, p, q, r, k) := ⟨_, _, _, _, _, _, rfl⟩
      have NR := Aside0.mk (snD_len hd)
      have HSD := Aside0.mk hd
      obtain ⟨ck, hck⟩ : ∃ c, c = ckC (nameS (blk l0 b)) := ⟨_, rfl⟩
      have HCK : Aside0 (impl_CheckName.f 101 (nameS (blk l0 b)) = some ck ∧ (ck = 0 → (nameS (blk l0 b)).size ≤ 26)) := ⟨by rw [hck]; exact ⟨(ckC_f _).2.1, (ckC_f _).2.2⟩⟩
      have HSA : Aside0 (snapB ck (blk l0 b) = (x, s, p, q, r, k)) := ⟨by rw [← snap_same (blk_byt HBY.out b), hck]; exact hd⟩
      have SSZ : Aside0 (s.size ≤ 512) := ⟨snD_size HBY.out hd⟩
      clear hd hck
      have BAD : Aside0 (k ≠ 0 ∨ x ≠ (i : Int) + 1 ∨ memB s (O.map Sn.s) = true → F = ([], 21)) := ⟨fun h_ => by rw [HF.out, snapsF_good HCH.out, ← HPP.out]; exact snF_bad CI.out HN.out (snStep_bad PB.out B0.out HSD.out h_)⟩
      obtain ⟨nb, hnb⟩ : ∃ n, n = l0.length / 512 := ⟨_, rfl⟩
      have NB := Aside0.mk hnb
      have cb0 : decide ((nb : Int) ≤ (b : Int)) = false := decide_eq_false (by have := PB3.out; omega)
      have cb1 : decide (nb ≤ b) = false := decide_eq_false (by have := PB3.out; omega)
      clear hnb
      obtain ⟨qk, QK⟩ : ∃ q, Aside0 ((k != 0) = q) := ⟨_, ⟨rfl⟩⟩
      cases qk
      case true =>
        go_wp2_with (first | ((with_reducible refine gate_dst (N := 26) rfl ?_); refine wpList_ld1 rfl 22 (.tmp 25) rfl g 0 rfl (.slice A0 l0.length c0) Tryd.underlying22 rfl (HG.out _ HB.out) V0.out ?_) | ((with_reducible refine gate_dst (N := 28) rfl ?_); refine ex_quo rfl 3 (.tmp 27) _ rfl l0.length 512 rfl rfl (by decide) (by have := HLM.out; omega) ?_; rw [← NB.out]) | ((with_reducible refine gate_dst (N := 35) rfl ?_); refine wpList_ld1 rfl 22 (.tmp 34) rfl g 0 rfl (.slice A0 l0.length c0) Tryd.underlying22 rfl (HG.out _ HB.out) V0.out ?_) | ((with_reducible refine gate_dst (N := 37) rfl ?_); refine goesL_ (some 37) rfl rfl Tryd.func102 (by kernel_rfl) rfl #[.slice A0 l0.length c0, .int .i64 (b : Int)] rfl (by (try simp only [List.map_toArray, List.map_cons, List.map_nil]); first | done | rfl) ?_; refine (impl_blockOf.calls A0 c0 l0 b _ (Kd.C_below HR0.out HB.out) HC0.out PB1.out HLM.out).mono ?_; rintro e_ wq ⟨⟨Ab, cb, rfl, hcb_, hlb_⟩, b_⟩; refine ⟨_, rfl, ?_⟩; have HCB := Aside0.mk hcb_; have HLB := Aside0.mk hlb_; clear hcb_ hlb_; have MPn := Aside0.mk (ownsMap_below MP.out b_); clear MP; have MP := MPn; clear MPn; have OOn := Aside0.mk (Kd.R_below OO.out b_); have HBn := Aside0.mk (below_then HB.out HB.out.size b_); clear b_; clear OO HB; have OO := OOn; have HB := HBn; clear OOn HBn; obtain ⟨wm, rfl⟩ : ∃ x, x = wq := ⟨_, rfl⟩) | ((with_reducible refine gate_dst (N := 38) rfl ?_); refine goesL_ (some 38) rfl rfl Tryd.func112 (by kernel_rfl) rfl #[.slice Ab (blk l0 b).length cb] rfl (by (try simp only [List.map_toArray, List.map_cons, List.map_nil]); first | done | rfl) ?_; refine (impl_DecodeSnap.calls Ab cb (blk l0 b) 101 ck HCK.out.1 HCK.out.2 x s p q r _ _ (Kd.C_below HV.out HB.out) HCB.out HLB.out (blk_byt HBY.out b) HSA.out).mono ?_; rintro e_ wq ⟨rfl, b_⟩; refine ⟨_, rfl, ?_⟩; have MPn := Aside0.mk (ownsMap_below MP.out b_); clear MP; have MP := MPn; clear MPn; have OOn := Aside0.mk (Kd.R_below OO.out b_); have HBn := Aside0.mk (below_then HB.out HB.out.size b_); clear HCB HLB; clear b_; clear OO HB; have OO := OOn; have HB := HBn; clear OOn HBn; obtain ⟨wm, rfl⟩ : ∃ x, x = wq := ⟨_, rfl⟩) | ((with_reducible refine gate_dst (N := 8) rfl ?_); refine ex_alloc rfl 8 rfl 131 rfl (.agg z1) z1 Z131 (by first | rfl | simp [Value.cells]) ?_; intro s10 wq Ss10 Ss10' b_ g_; have H10 := Aside0.mk g_; have Bs10 : Aside0 (w.heap.size ≤ s10) := ⟨by rw [← Ss10.out]; exact HB.out.size⟩; have OO' := Aside0.mk (Kd.R_mono (ok' := (fun k_ => k_ ≠ mb ∧ k_ < s10)) (Kd.R_bound OO.out) (fun k_ hk_ => ⟨hk_.1, by rw [← Ss10.out]; exact hk_.2.2.1⟩)); clear OO; have OO := OO'; clear OO'; have DM : Aside0 (mb < s10) := ⟨by rw [← Ss10.out]; exact MP.out.lt⟩; have MPn := Aside0.mk (ownsMap_below MP.out b_); clear MP; have MP := MPn; clear MPn; clear g_ Ss10 Ss10'; have OOn := Aside0.mk (Kd.R_below OO.out b_); have HBn := Aside0.mk (below_then HB.out HB.out.size b_); clear b_; clear OO HB; have OO := OOn; have HB := HBn; clear OOn HBn; obtain ⟨wm, rfl⟩ : ∃ x, x = wq := ⟨_, rfl⟩) | ((with_reducible refine gate_store (t := 131) (p := 8) (v := .tmp 39) rfl ?_); refine hx_store rfl rfl 131 (.tmp 8) (.tmp 39) rfl s10 19 rfl (snapC x s p q r).toArray rfl (by kernel_rfl) (snapC_size NR.out) (snapC_one _ _ _ _ _) H10.out NZ1.out ?_; intro wq t_ g_; have H10n := Aside0.mk g_; have OOn := Aside0.mk (Kd.R_kept OO.out (kept_touch t_) (fun k_ hk_ (he_ : k_ = s10) => by have h1_ := hk_.2; omega)); have HBn := Aside0.mk (t_.below HB.out Bs10.out); have MPn := Aside0.mk (ownsMap_touch MP.out t_ (by have := DM.out; omega)); clear t_ g_ MP; have MP := MPn; clear MPn; clear H10 OO HB; have H10 := H10n; have OO := OOn; have HB := HBn; clear H10n OOn HBn; obtain ⟨wm, rfl⟩ : ∃ x, x = wq := ⟨_, rfl⟩) | ((with_reducible refine gate_dst (N := 42) rfl ?_); refine hx_neqi rfl 3 3 (.tmp 41) _ rfl Tryd.underlying3 _ 0 rfl rfl true QK ?_))
        go_ret2
        have e_ := BAD.out (.inl (by have := QK.out; simpa using this))
        subst e_
        first | exact ⟨_, _, rfl, .inr ⟨rfl, rfl⟩, Kd.R_nil _ _ _ _ _, HB.out⟩ | exact ⟨_, _, rfl, rfl, Kd.R_nil _ _ _ _ _, HB.out⟩
      case false =>
        obtain rfl : k = 0 := by have := QK.out; simpa using this
        obtain ⟨qx, QX⟩ : ∃ q, Aside0 ((x != (i : Int) + 1) = q) := ⟨_, ⟨rfl⟩⟩
        cases qx
        case true =>
          have cx0 := QX.out
          go_wp2_with (first | ((with_reducible refine gate_dst (N := 26) rfl ?_); refine wpList_ld1 rfl 22 (.tmp 25) rfl g 0 rfl (.slice A0 l0.length c0) Tryd.underlying22 rfl (HG.out _ HB.out) V0.out ?_) | ((with_reducible refine gate_dst (N := 28) rfl ?_); refine ex_quo rfl 3 (.tmp 27) _ rfl l0.length 512 rfl rfl (by decide) (by have := HLM.out; omega) ?_; rw [← NB.out]) | ((with_reducible refine gate_dst (N := 35) rfl ?_); refine wpList_ld1 rfl 22 (.tmp 34) rfl g 0 rfl (.slice A0 l0.length c0) Tryd.underlying22 rfl (HG.out _ HB.out) V0.out ?_) | ((with_reducible refine gate_dst (N := 37) rfl ?_); refine goesL_ (some 37) rfl rfl Tryd.func102 (by kernel_rfl) rfl #[.slice A0 l0.length c0, .int .i64 (b : Int)] rfl (by (try simp only [List.map_toArray, List.map_cons, List.map_nil]); first | done | rfl) ?_; refine (impl_blockOf.calls A0 c0 l0 b _ (Kd.C_below HR0.out HB.out) HC0.out PB1.out HLM.out).mono ?_; rintro e_ wq ⟨⟨Ab, cb, rfl, hcb_, hlb_⟩, b_⟩; refine ⟨_, rfl, ?_⟩; have HCB := Aside0.mk hcb_; have HLB := Aside0.mk hlb_; clear hcb_ hlb_; have MPn := Aside0.mk (ownsMap_below MP.out b_); clear MP; have MP := MPn; clear MPn; have OOn := Aside0.mk (Kd.R_below OO.out b_); have HBn := Aside0.mk (below_then HB.out HB.out.size b_); clear b_; clear OO HB; have OO := OOn; have HB := HBn; clear OOn HBn; obtain ⟨wm, rfl⟩ : ∃ x, x = wq := ⟨_, rfl⟩) | ((with_reducible refine gate_dst (N := 38) rfl ?_); refine goesL_ (some 38) rfl rfl Tryd.func112 (by kernel_rfl) rfl #[.slice Ab (blk l0 b).length cb] rfl (by (try simp only [List.map_toArray, List.map_cons, List.map_nil]); first | done | rfl) ?_; refine (impl_DecodeSnap.calls Ab cb (blk l0 b) 101 ck HCK.out.1 HCK.out.2 x s p q r _ _ (Kd.C_below HV.out HB.out) HCB.out HLB.out (blk_byt HBY.out b) HSA.out).mono ?_; rintro e_ wq ⟨rfl, b_⟩; refine ⟨_, rfl, ?_⟩; have MPn := Aside0.mk (ownsMap_below MP.out b_); clear MP; have MP := MPn; clear MPn; have OOn := Aside0.mk (Kd.R_below OO.out b_); have HBn := Aside0.mk (below_then HB.out HB.out.size b_); clear HCB HLB; clear b_; clear OO HB; have OO := OOn; have HB := HBn; clear OOn HBn; obtain ⟨wm, rfl⟩ : ∃ x, x = wq := ⟨_, rfl⟩) | ((with_reducible refine gate_dst (N := 8) rfl ?_); refine ex_alloc rfl 8 rfl 131 rfl (.agg z1) z1 Z131 (by first | rfl | simp [Value.cells]) ?_; intro s10 wq Ss10 Ss10' b_ g_; have H10 := Aside0.mk g_; have Bs10 : Aside0 (w.heap.size ≤ s10) := ⟨by rw [← Ss10.out]; exact HB.out.size⟩; have OO' := Aside0.mk (Kd.R_mono (ok' := (fun k_ => k_ ≠ mb ∧ k_ < s10)) (Kd.R_bound OO.out) (fun k_ hk_ => ⟨hk_.1, by rw [← Ss10.out]; exact hk_.2.2.1⟩)); clear OO; have OO := OO'; clear OO'; have DM : Aside0 (mb < s10) := ⟨by rw [← Ss10.out]; exact MP.out.lt⟩; have MPn := Aside0.mk (ownsMap_below MP.out b_); clear MP; have MP := MPn; clear MPn; clear g_ Ss10 Ss10'; have OOn := Aside0.mk (Kd.R_below OO.out b_); have HBn := Aside0.mk (below_then HB.out HB.out.size b_); clear b_; clear OO HB; have OO := OOn; have HB := HBn; clear OOn HBn; obtain ⟨wm, rfl⟩ : ∃ x, x = wq := ⟨_, rfl⟩) | ((with_reducible refine gate_store (t := 131) (p := 8) (v := .tmp 39) rfl ?_); refine hx_store rfl rfl 131 (.tmp 8) (.tmp 39) rfl s10 19 rfl (snapC x s p q r).toArray rfl (by kernel_rfl) (snapC_size NR.out) (snapC_one _ _ _ _ _) H10.out NZ1.out ?_; intro wq t_ g_; have H10n := Aside0.mk g_; have OOn := Aside0.mk (Kd.R_kept OO.out (kept_touch t_) (fun k_ hk_ (he_ : k_ = s10) => by have h1_ := hk_.2; omega)); have HBn := Aside0.mk (t_.below HB.out Bs10.out); have MPn := Aside0.mk (ownsMap_touch MP.out t_ (by have := DM.out; omega)); clear t_ g_ MP; have MP := MPn; clear MPn; clear H10 OO HB; have H10 := H10n; have OO := OOn; have HB := HBn; clear H10n OOn HBn; obtain ⟨wm, rfl⟩ : ∃ x, x = wq := ⟨_, rfl⟩) | ((with_reducible refine gate_dst (N := 42) rfl ?_); refine hx_neqi rfl 3 3 (.tmp 41) _ rfl Tryd.underlying3 _ 0 rfl rfl false QK ?_) | ((with_reducible refine gate_dst (N := 45) rfl ?_); refine Go.Proofs.YtknlpjoidjgciaaDoorW.PrintTab2.ungd (by rfl) ?_; refine wpList_ld1 rfl 3 (.tmp 44) rfl s10 0 rfl (.int .i64 x) Tryd.underlying3 rfl H10.out rfl ?_) | ((with_reducible refine gate_dst (N := 47) rfl ?_); refine Go.Proofs.YtknlpjoidjgciaaDoorW.PrintTab2.ungd (by rfl) ?_; refine hx_addn rfl 3 (.tmp 46) _ rfl i 1 rfl rfl (by have := CI.out; omega) ?_; intro i1 e1_) | ((with_reducible refine gate_dst (N := 48) rfl ?_); refine Go.Proofs.YtknlpjoidjgciaaDoorW.PrintTab2.ungd (by rfl) ?_; refine hx_neqi rfl 3 3 (.tmp 45) (.tmp 47) rfl Tryd.underlying3 x (i1 : Int) rfl rfl true ⟨by rw [e1_.out]; exact QX.out⟩ ?_))
          go_ret2
          have e_ := BAD.out (.inr (.inl (fun h_ => by have := QX.out; rw [h_] at this; simp at this)))
          subst e_
          first | exact ⟨_, _, rfl, .inr ⟨rfl, rfl⟩, Kd.R_nil _ _ _ _ _, HB.out⟩ | exact ⟨_, _, rfl, rfl, Kd.R_nil _ _ _ _ _, HB.out⟩
        case false =>
          have HX : Aside0 (x = (i : Int) + 1) := ⟨by have := QX.out; simpa using this⟩
          have cx0 := QX.out
          obtain ⟨qm, QM⟩ : ∃ q, Aside0 (memB s (O.map Sn.s) = q) := ⟨_, ⟨rfl⟩⟩
          cases qm
          case true =>
            go_wp2_with (first | ((with_reducible refine gate_dst (N := 26) rfl ?_); refine wpList_ld1 rfl 22 (.tmp 25) rfl g 0 rfl (.slice A0 l0.length c0) Tryd.underlying22 rfl (HG.out _ HB.out) V0.out ?_) | ((with_reducible refine gate_dst (N := 28) rfl ?_); refine ex_quo rfl 3 (.tmp 27) _ rfl l0.length 512 rfl rfl (by decide) (by have := HLM.out; omega) ?_; rw [← NB.out]) | ((with_reducible refine gate_dst (N := 35) rfl ?_); refine wpList_ld1 rfl 22 (.tmp 34) rfl g 0 rfl (.slice A0 l0.length c0) Tryd.underlying22 rfl (HG.out _ HB.out) V0.out ?_) | ((with_reducible refine gate_dst (N := 37) rfl ?_); refine goesL_ (some 37) rfl rfl Tryd.func102 (by kernel_rfl) rfl #[.slice A0 l0.length c0, .int .i64 (b : Int)] rfl (by (try simp only [List.map_toArray, List.map_cons, List.map_nil]); first | done | rfl) ?_; refine (impl_blockOf.calls A0 c0 l0 b _ (Kd.C_below HR0.out HB.out) HC0.out PB1.out HLM.out).mono ?_; rintro e_ wq ⟨⟨Ab, cb, rfl, hcb_, hlb_⟩, b_⟩; refine ⟨_, rfl, ?_⟩; have HCB := Aside0.mk hcb_; have HLB := Aside0.mk hlb_; clear hcb_ hlb_; have MPn := Aside0.mk (ownsMap_below MP.out b_); clear MP; have MP := MPn; clear MPn; have OOn := Aside0.mk (Kd.R_below OO.out b_); have HBn := Aside0.mk (below_then HB.out HB.out.size b_); clear b_; clear OO HB; have OO := OOn; have HB := HBn; clear OOn HBn; obtain ⟨wm, rfl⟩ : ∃ x, x = wq := ⟨_, rfl⟩) | ((with_reducible refine gate_dst (N := 38) rfl ?_); refine goesL_ (some 38) rfl rfl Tryd.func112 (by kernel_rfl) rfl #[.slice Ab (blk l0 b).length cb] rfl (by (try simp only [List.map_toArray, List.map_cons, List.map_nil]); first | done | rfl) ?_; refine (impl_DecodeSnap.calls Ab cb (blk l0 b) 101 ck HCK.out.1 HCK.out.2 x s p q r _ _ (Kd.C_below HV.out HB.out) HCB.out HLB.out (blk_byt HBY.out b) HSA.out).mono ?_; rintro e_ wq ⟨rfl, b_⟩; refine ⟨_, rfl, ?_⟩; have MPn := Aside0.mk (ownsMap_below MP.out b_); clear MP; have MP := MPn; clear MPn; have OOn := Aside0.mk (Kd.R_below OO.out b_); have HBn := Aside0.mk (below_then HB.out HB.out.size b_); clear HCB HLB; clear b_; clear OO HB; have OO := OOn; have HB := HBn; clear OOn HBn; obtain ⟨wm, rfl⟩ : ∃ x, x = wq := ⟨_, rfl⟩) | ((with_reducible refine gate_dst (N := 8) rfl ?_); refine ex_alloc rfl 8 rfl 131 rfl (.agg z1) z1 Z131 (by first | rfl | simp [Value.cells]) ?_; intro s10 wq Ss10 Ss10' b_ g_; have H10 := Aside0.mk g_; have Bs10 : Aside0 (w.heap.size ≤ s10) := ⟨by rw [← Ss10.out]; exact HB.out.size⟩; have OO' := Aside0.mk (Kd.R_mono (ok' := (fun k_ => k_ ≠ mb ∧ k_ < s10)) (Kd.R_bound OO.out) (fun k_ hk_ => ⟨hk_.1, by rw [← Ss10.out]; exact hk_.2.2.1⟩)); clear OO; have OO := OO'; clear OO'; have DM : Aside0 (mb < s10) := ⟨by rw [← Ss10.out]; exact MP.out.lt⟩; have MPn := Aside0.mk (ownsMap_below MP.out b_); clear MP; have MP := MPn; clear MPn; clear g_ Ss10 Ss10'; have OOn := Aside0.mk (Kd.R_below OO.out b_); have HBn := Aside0.mk (below_then HB.out HB.out.size b_); clear b_; clear OO HB; have OO := OOn; have HB := HBn; clear OOn HBn; obtain ⟨wm, rfl⟩ : ∃ x, x = wq := ⟨_, rfl⟩) | ((with_reducible refine gate_store (t := 131) (p := 8) (v := .tmp 39) rfl ?_); refine hx_store rfl rfl 131 (.tmp 8) (.tmp 39) rfl s10 19 rfl (snapC x s p q r).toArray rfl (by kernel_rfl) (snapC_size NR.out) (snapC_one _ _ _ _ _) H10.out NZ1.out ?_; intro wq t_ g_; have H10n := Aside0.mk g_; have OOn := Aside0.mk (Kd.R_kept OO.out (kept_touch t_) (fun k_ hk_ (he_ : k_ = s10) => by have h1_ := hk_.2; omega)); have HBn := Aside0.mk (t_.below HB.out Bs10.out); have MPn := Aside0.mk (ownsMap_touch MP.out t_ (by have := DM.out; omega)); clear t_ g_ MP; have MP := MPn; clear MPn; clear H10 OO HB; have H10 := H10n; have OO := OOn; have HB := HBn; clear H10n OOn HBn; obtain ⟨wm, rfl⟩ : ∃ x, x = wq := ⟨_, rfl⟩) | ((with_reducible refine gate_dst (N := 42) rfl ?_); refine hx_neqi rfl 3 3 (.tmp 41) _ rfl Tryd.underlying3 _ 0 rfl rfl false QK ?_) | ((with_reducible refine gate_dst (N := 45) rfl ?_); refine Go.Proofs.YtknlpjoidjgciaaDoorW.PrintTab2.ungd (by rfl) ?_; refine wpList_ld1 rfl 3 (.tmp 44) rfl s10 0 rfl (.int .i64 x) Tryd.underlying3 rfl H10.out rfl ?_) | ((with_reducible refine gate_dst (N := 47) rfl ?_); refine Go.Proofs.YtknlpjoidjgciaaDoorW.PrintTab2.ungd (by rfl) ?_; refine hx_addn rfl 3 (.tmp 46) _ rfl i 1 rfl rfl (by have := CI.out; omega) ?_; intro i1 e1_) | ((with_reducible refine gate_dst (N := 48) rfl ?_); refine Go.Proofs.YtknlpjoidjgciaaDoorW.PrintTab2.ungd (by rfl) ?_; refine hx_neqi rfl 3 3 (.tmp 45) (.tmp 47) rfl Tryd.underlying3 x (i1 : Int) rfl rfl false ⟨by rw [e1_.out]; exact QX.out⟩ ?_) | ((with_reducible refine gate_dst (N := 53) rfl ?_); refine Go.Proofs.YtknlpjoidjgciaaDoorW.PrintTab2.ungd (by rfl) ?_; refine wpList_ld1 rfl 9 (.tmp 52) rfl s10 1 rfl (.string s) Tryd.underlying9 rfl H10.out rfl ?_) | ((with_reducible refine gate_dst (N := 54) rfl ?_); refine Go.Proofs.YtknlpjoidjgciaaDoorW.PrintTab2.ungd (by rfl) ?_; refine ex_look rfl (.tmp 51) (.tmp 53) 185 rfl mb rfl (.string s) rfl (.bool true) (lookup_bool MP.out KL Tryd.underlying185 Tryd.underlying4 (ZB _) (HKY.out s (by have := SSZ.out; simp only [maxLen]; omega)) true (by rw [setB_look, QM.out])) ?_))
            go_ret2
            have e_ := BAD.out (.inr (.inr QM.out))
            subst e_
            first | exact ⟨_, _, rfl, .inr ⟨rfl, rfl⟩, Kd.R_nil _ _ _ _ _, HB.out⟩ | exact ⟨_, _, rfl, rfl, Kd.R_nil _ _ _ _ _, HB.out⟩
          case false =>
            obtain ⟨O2, hO2⟩ : ∃ o, o = O ++ [Sn.mk x s p q r] := ⟨_, rfl⟩
            have OE : Aside0 (O.map Sn.c ++ [snapC x s p q r] = O2.map Sn.c) := ⟨by rw [hO2]; simp [Sn.c]⟩
            have O2E : Aside0 (O2.map Sn.s = O.map Sn.s ++ [s] ∧ O2.length = O.length + 1) := ⟨by rw [hO2]; simp⟩
            have HN2 : Aside0 (snN l0 PP (i + 1) = some O2) := ⟨by rw [hO2]; exact snN_step HN.out (snStep_good PB.out B0.out HSD.out rfl HX.out QM.out)⟩
            clear hO2
            go_wp2_with (first | ((with_reducible refine gate_dst (N := 26) rfl ?_); refine wpList_ld1 rfl 22 (.tmp 25) rfl g 0 rfl (.slice A0 l0.length c0) Tryd.underlying22 rfl (HG.out _ HB.out) V0.out ?_) | ((with_reducible refine gate_dst (N := 28) rfl ?_); refine ex_quo rfl 3 (.tmp 27) _ rfl l0.length 512 rfl rfl (by decide) (by have := HLM.out; omega) ?_; rw [← NB.out]) | ((with_reducible refine gate_dst (N := 35) rfl ?_); refine wpList_ld1 rfl 22 (.tmp 34) rfl g 0 rfl (.slice A0 l0.length c0) Tryd.underlying22 rfl (HG.out _ HB.out) V0.out ?_) | ((with_reducible refine gate_dst (N := 37) rfl ?_); refine goesL_ (some 37) rfl rfl Tryd.func102 (by kernel_rfl) rfl #[.slice A0 l0.length c0, .int .i64 (b : Int)] rfl (by (try simp only [List.map_toArray, List.map_cons, List.map_nil]); first | done | rfl) ?_; refine (impl_blockOf.calls A0 c0 l0 b _ (Kd.C_below HR0.out HB.out) HC0.out PB1.out HLM.out).mono ?_; rintro e_ wq ⟨⟨Ab, cb, rfl, hcb_, hlb_⟩, b_⟩; refine ⟨_, rfl, ?_⟩; have HCB := Aside0.mk hcb_; have HLB := Aside0.mk hlb_; clear hcb_ hlb_; have MPn := Aside0.mk (ownsMap_below MP.out b_); clear MP; have MP := MPn; clear MPn; have OOn := Aside0.mk (Kd.R_below OO.out b_); have HBn := Aside0.mk (below_then HB.out HB.out.size b_); clear b_; clear OO HB; have OO := OOn; have HB := HBn; clear OOn HBn; obtain ⟨wm, rfl⟩ : ∃ x, x = wq := ⟨_, rfl⟩) | ((with_reducible refine gate_dst (N := 38) rfl ?_); refine goesL_ (some 38) rfl rfl Tryd.func112 (by kernel_rfl) rfl #[.slice Ab (blk l0 b).length cb] rfl (by (try simp only [List.map_toArray, List.map_cons, List.map_nil]); first | done | rfl) ?_; refine (impl_DecodeSnap.calls Ab cb (blk l0 b) 101 ck HCK.out.1 HCK.out.2 x s p q r _ _ (Kd.C_below HV.out HB.out) HCB.out HLB.out (blk_byt HBY.out b) HSA.out).mono ?_; rintro e_ wq ⟨rfl, b_⟩; refine ⟨_, rfl, ?_⟩; have MPn := Aside0.mk (ownsMap_below MP.out b_); clear MP; have MP := MPn; clear MPn; have OOn := Aside0.mk (Kd.R_below OO.out b_); have HBn := Aside0.mk (below_then HB.out HB.out.size b_); clear HCB HLB; clear b_; clear OO HB; have OO := OOn; have HB := HBn; clear OOn HBn; obtain ⟨wm, rfl⟩ : ∃ x, x = wq := ⟨_, rfl⟩) | ((with_reducible refine gate_dst (N := 8) rfl ?_); refine ex_alloc rfl 8 rfl 131 rfl (.agg z1) z1 Z131 (by first | rfl | simp [Value.cells]) ?_; intro s10 wq Ss10 Ss10' b_ g_; have H10 := Aside0.mk g_; have Bs10 : Aside0 (w.heap.size ≤ s10) := ⟨by rw [← Ss10.out]; exact HB.out.size⟩; have OO' := Aside0.mk (Kd.R_mono (ok' := (fun k_ => k_ ≠ mb ∧ k_ < s10)) (Kd.R_bound OO.out) (fun k_ hk_ => ⟨hk_.1, by rw [← Ss10.out]; exact hk_.2.2.1⟩)); clear OO; have OO := OO'; clear OO'; have DM : Aside0 (mb < s10) := ⟨by rw [← Ss10.out]; exact MP.out.lt⟩; have MPn := Aside0.mk (ownsMap_below MP.out b_); clear MP; have MP := MPn; clear MPn; clear g_ Ss10 Ss10'; have OOn := Aside0.mk (Kd.R_below OO.out b_); have HBn := Aside0.mk (below_then HB.out HB.out.size b_); clear b_; clear OO HB; have OO := OOn; have HB := HBn; clear OOn HBn; obtain ⟨wm, rfl⟩ : ∃ x, x = wq := ⟨_, rfl⟩) | ((with_reducible refine gate_store (t := 131) (p := 8) (v := .tmp 39) rfl ?_); refine hx_store rfl rfl 131 (.tmp 8) (.tmp 39) rfl s10 19 rfl (snapC x s p q r).toArray rfl (by kernel_rfl) (snapC_size NR.out) (snapC_one _ _ _ _ _) H10.out NZ1.out ?_; intro wq t_ g_; have H10n := Aside0.mk g_; have OOn := Aside0.mk (Kd.R_kept OO.out (kept_touch t_) (fun k_ hk_ (he_ : k_ = s10) => by have h1_ := hk_.2; omega)); have HBn := Aside0.mk (t_.below HB.out Bs10.out); have MPn := Aside0.mk (ownsMap_touch MP.out t_ (by have := DM.out; omega)); clear t_ g_ MP; have MP := MPn; clear MPn; clear H10 OO HB; have H10 := H10n; have OO := OOn; have HB := HBn; clear H10n OOn HBn; obtain ⟨wm, rfl⟩ : ∃ x, x = wq := ⟨_, rfl⟩) | ((with_reducible refine gate_dst (N := 42) rfl ?_); refine hx_neqi rfl 3 3 (.tmp 41) _ rfl Tryd.underlying3 _ 0 rfl rfl false QK ?_) | ((with_reducible refine gate_dst (N := 45) rfl ?_); refine Go.Proofs.YtknlpjoidjgciaaDoorW.PrintTab2.ungd (by rfl) ?_; refine wpList_ld1 rfl 3 (.tmp 44) rfl s10 0 rfl (.int .i64 x) Tryd.underlying3 rfl H10.out rfl ?_) | ((with_reducible refine gate_dst (N := 47) rfl ?_); refine Go.Proofs.YtknlpjoidjgciaaDoorW.PrintTab2.ungd (by rfl) ?_; refine hx_addn rfl 3 (.tmp 46) _ rfl i 1 rfl rfl (by have := CI.out; omega) ?_; intro i1 e1_) | ((with_reducible refine gate_dst (N := 48) rfl ?_); refine Go.Proofs.YtknlpjoidjgciaaDoorW.PrintTab2.ungd (by rfl) ?_; refine hx_neqi rfl 3 3 (.tmp 45) (.tmp 47) rfl Tryd.underlying3 x (i1 : Int) rfl rfl false ⟨by rw [e1_.out]; exact QX.out⟩ ?_) | ((with_reducible refine gate_dst (N := 53) rfl ?_); refine Go.Proofs.YtknlpjoidjgciaaDoorW.PrintTab2.ungd (by rfl) ?_; refine wpList_ld1 rfl 9 (.tmp 52) rfl s10 1 rfl (.string s) Tryd.underlying9 rfl H10.out rfl ?_) | ((with_reducible refine gate_dst (N := 54) rfl ?_); refine Go.Proofs.YtknlpjoidjgciaaDoorW.PrintTab2.ungd (by rfl) ?_; refine ex_look rfl (.tmp 51) (.tmp 53) 185 rfl mb rfl (.string s) rfl (.bool false) (lookup_bool MP.out KL Tryd.underlying185 Tryd.underlying4 (ZB _) (HKY.out s (by have := SSZ.out; simp only [maxLen]; omega)) false (by rw [setB_look, QM.out])) ?_) | ((with_reducible refine gate_dst (N := 59) rfl ?_); refine wpList_ld1 rfl 9 (.tmp 58) rfl s10 1 rfl (.string s) Tryd.underlying9 rfl H10.out rfl ?_) | (at_mapUpdate; refine ex_upd rfl (.tmp 57) (.tmp 59) _ 185 rfl 9 4 KL Tryd.underlying185 Tryd.underlying4 mb O.length (O.map Sn.s) rfl MP.out (by have h1_ := snN_le HN.out; have h2_ := CI.out; simp only [maxLen]; omega) s rfl rfl (HKY.out s (by have := SSZ.out; simp only [maxLen]; omega)) ?_; intro wq hm_ hg_; have MPn := Aside0.mk hm_; have H10n := Aside0.mk ((hg_.block s10 (blk_lt H10.out) (by have := DM.out; simp; omega)).trans H10.out); have OOn := Aside0.mk (Kd.R_grown OO.out hg_ (fun k_ hk_ he_ => hk_.1 (by simpa using he_))); have HBn := Aside0.mk (HB.out.grown hg_ HB.out.size (fun k_ he_ => by (have h_ : mb = k_ := (by simpa using he_)); have := BM.out; omega)); clear hm_ hg_ MP; clear H10 OO HB; have MP := MPn; have H10 := H10n; have OO := OOn; have HB := HBn; clear MPn H10n OOn HBn; obtain ⟨wm, rfl⟩ : ∃ x, x = wq := ⟨_, rfl⟩) | ((with_reducible refine gate_dst (N := 61) rfl ?_); refine hx_load rfl 131 (.tmp 8) rfl s10 19 rfl Tryd.underlying131 rfl (by kernel_rfl) H10.out (snapC_size NR.out) ?_; obtain ⟨sl, SL⟩ : ∃ s, Aside0 (wm.heap.size = s) := ⟨_, ⟨rfl⟩⟩) | ((with_reducible refine gate_dst (N := 62) rfl ?_); refine ex_lit1 rfl 62 rfl 71 131 19 (.tmp 61) rfl (snapC x s p q r) rfl (snapC_length NR.out) (snapC_all1 _ _ _ _ _) (s := sl) SL (lit131 x s p q r NR.out) ?_; intro wq b_ C5; have OO' := Aside0.mk (Kd.R_mono (ok' := (fun k_ => k_ ≠ mb)) (Kd.R_below OO.out b_) (fun _ h_ => h_.1)); clear OO; have OO := OO'; clear OO'; have MPn := Aside0.mk (ownsMap_below MP.out b_); clear MP; have MP := MPn; clear MPn; have HBn := Aside0.mk (below_then HB.out HB.out.size b_); clear b_ HB; have HB := HBn; clear HBn; obtain ⟨wm, rfl⟩ : ∃ x, x = wq := ⟨_, rfl⟩) | ((with_reducible refine gate_dst (N := 63) rfl ?_); refine Kd.R_append_rows (cellsK 19) (w0 := w) w.heap.size rfl (.tmp 60) (.tmp 62) 71 131 (.agg z1) 160 rfl Tryd.underlying71 HI.out NZ1.out (by decide) (by omega) (.slice A7 O.length c7) (O.map Sn.c) [snapC x s p q r] _ _ _ (fun k_ => k_ ≠ mb) (fun _ => False) rfl rfl OO.out C5.out (fun _ _ h => h) (fun _ h => h.elim) (fun k_ hk_ he_ => by have h_ := MP.out.lt; omega) HB.out HB.out.size (by have h1_ := snN_le HN.out; have h2_ := CI.out; rw [List.length_map]; show (_ + 1) * 160 ≤ _; omega) ?_; intro vn wq ho_ hb_ hg_ hn_; have MPn := Aside0.mk (MP.out.kept hg_ (fun e_ => OO.out.1 mb e_.symm rfl)); clear MP; have MP := MPn; clear MPn; rw [OE.out] at ho_; obtain ⟨A8, c8, rfl⟩ := Kd.R_slice ho_; rw [show (O2.map Sn.c).length = O2.length from List.length_map ..] at ho_; rw [show (O2.map Sn.c).length = O2.length from List.length_map ..]; have O8 := Aside0.mk ho_; have HBn := Aside0.mk hb_; clear ho_ hb_ hg_ hn_ HB; have HB := HBn; clear HBn; obtain ⟨wm, rfl⟩ : ∃ x, x = wq := ⟨_, rfl⟩))
            (try simp only [Act.put, List.setIfInBounds_toArray, List.set_cons_succ, List.set_cons_zero])
            go_roundw
            case rel => exact ⟨i + 1, O2, A8, c8, by first | rw [hw_] | rfl, rfl, ⟨by have := CI.out; omega⟩, HN2, O8, ⟨by rw [O2E.out.1, O2E.out.2]; exact MP.out⟩, HB⟩
            case measure =>
              (try rw [hw_])
              simp only [intOf, Int.toNat_natCast]
              have := CI.out
              omega
end Go.Proofs.YtknlpjoidjgciaaDoor.PFnExactSnapshots
