/- Snapshots: impl.Snapshots. -/
import Derived.Test.YtknlpjoidjgciaaDoorQSne
import Derived.Test.YtknlpjoidjgciaaDoorQW2
namespace Go.Proofs.YtknlpjoidjgciaaDoor.PFnExactSnapshots
open Go Go.RowKit Go.Proofs.YtknlpjoidjgciaaDoorW.PrintWords Go.Proofs.YtknlpjoidjgciaaDoorW.PrintLast Go.Proofs.YtknlpjoidjgciaaDoorW.PrintMore Go.Proofs.YtknlpjoidjgciaaDoorW.PrintHand Go.Proofs.YtknlpjoidjgciaaDoorW.PrintHx Go.Proofs.YtknlpjoidjgciaaDoorW.PrintLe Go.Proofs.YtknlpjoidjgciaaDoorW.PrintIno Go.Proofs.YtknlpjoidjgciaaDoorW.PrintDec Go.Proofs.YtknlpjoidjgciaaDoorW.PrintFsi Go.Proofs.YtknlpjoidjgciaaDoorW.PrintFsb Go.Proofs.YtknlpjoidjgciaaDoorW.PrintFsd Go.Proofs.YtknlpjoidjgciaaDoorW.PrintCrc Go.Proofs.YtknlpjoidjgciaaDoorW.PrintGrow Go.Proofs.YtknlpjoidjgciaaDoorW.PrintSnp Go.Proofs.YtknlpjoidjgciaaDoorW.PrintSnd Go.Proofs.YtknlpjoidjgciaaDoorW.PrintRws Go.Proofs.YtknlpjoidjgciaaDoorW
open Go.Proofs.YtknlpjoidjgciaaDoorW.PrintChs Go.Proofs.YtknlpjoidjgciaaDoorW.PrintHx
attribute [local go_sem] max2_int min2_int max_two min_two max_three min_three max_four min_four
set_option linter.unusedVariables false
set_option linter.unusedSimpArgs false
set_option maxHeartbeats 8000000 in
set_option maxRecDepth 100000 in
theorem implSnaps_told (A0 : Option Addr) (c0 : Nat) (l0 : List Int) (w : World) (hm : Kd.C (Kd.int .u8) w (some ⟨1, 0, none⟩) 8 magicF) (hv : Kd.C (Kd.int .u8) w (some ⟨2, 0, none⟩) 8 magicS) (hgE : w.cell? ⟨0, 0, none⟩ = some (.iface 237 (.agg #[.pointer (some ⟨9, 93, none⟩)]))) (hr0 : Kd.C (Kd.int .u8) w A0 l0.length l0) (hc0 : l0.length ≤ c0) (hl : l0.length ≤ 1048576) (hby : Byt l0) :
    Calls Tryd.prog 38 #[.slice A0 l0.length c0] w fun e w' => ∃ v : Value, e = .returned (.tuple #[v, .int .i64 (snapsF l0).2]) ∧ Kd.R (cellsK 19) 131 w' w.heap.size (fun _ => True) v ((snapsF l0).1.map Sn.c) ∧ Below w.heap.size w w' := by
  obtain ⟨L, at_, c, hch⟩ : ∃ L a c, chooseF (decA l0) l0 = (L, a, c) := ⟨_, _, _, rfl⟩
  have HCH := Aside0.mk hch
  have HCB : Aside0 (chooseF (decB l0) l0 = (L, at_, c)) := ⟨by rw [← show decA l0 = decB l0 from funext fun b => dec_same hby b]; exact hch⟩
  have HR0 := Aside0.mk hr0
  have HC0 := Aside0.mk hc0
  have HLM := Aside0.mk hl
  have HBY := Aside0.mk hby
  have HV := Aside0.mk hv
  have HM := Aside0.mk hm
  have HGE := Aside0.mk hgE
  obtain ⟨F, hF⟩ : ∃ F, F = snapsF l0 := ⟨_, rfl⟩
  rw [← hF]
  have HF := Aside0.mk hF
  have HB := Aside0.mk (Below.refl w.heap.size w)
  clear hr0 hc0 hl hv hm hgE hF
  by_cases hc : c = 0
  case neg =>
    have e_ : F = ([], c) := by rw [HF.out]; exact snapsF_bad hch hc
    subst e_
    have HCN := Aside0.mk hc
    clear hc hch hby
    go_enter Tryd.func38, Tryd.ntmps38
    go_wp2_with (first | ((with_reducible refine gate_dst (N := 9) rfl ?_); refine goesL_ (some 9) rfl rfl Tryd.func81 (by kernel_rfl) rfl #[.slice A0 l0.length c0] rfl (by (try simp only [List.map_toArray, List.map_cons, List.map_nil]); first | done | rfl) ?_; refine (impl_openVolume.calls A0 c0 l0 L at_ _ _ HM.out HR0.out HC0.out HLM.out HBY.out HCB.out).mono ?_; rintro e_ wq ⟨hh_, b_⟩; obtain ⟨_, _, _, rfl⟩ := (hh_.resolve_left (fun h_ => HCN.out h_.1)); refine ⟨_, rfl, ?_⟩; clear hh_; have HBn := Aside0.mk (below_then HB.out HB.out.size b_); clear b_; clear HB; have HB := HBn; clear HBn; obtain ⟨wm, rfl⟩ : ∃ x, x = wq := ⟨_, rfl⟩) | ((with_reducible refine gate_dst (N := 15) rfl ?_); refine goesL_ (some 15) rfl rfl Tryd.func59 (by kernel_rfl) rfl #[.iface 152 (.int .i64 c)] rfl (by (try simp only [List.map_toArray, List.map_cons, List.map_nil]); first | done | rfl) ?_; refine (impl_codeOf.hit c _ (ea_kept HB.out HGE.out (ea_lt HGE.out))).mono ?_; rintro e_ wq ⟨rfl, b_⟩; refine ⟨_, rfl, ?_⟩; have HBn := Aside0.mk (below_then HB.out HB.out.size b_); clear b_; clear HB; have HB := HBn; clear HBn; obtain ⟨wm, rfl⟩ : ∃ x, x = wq := ⟨_, rfl⟩))
    go_ret2
    exact ⟨_, rfl, Kd.R_nil _ _ _ _ _, HB.out⟩
  subst hc
  have HF2 : Aside0 (F = snF l0 (fsS L)) := ⟨by rw [HF.out]; exact snapsF_good hch⟩
  clear hch hby
  go_enter Tryd.func38, Tryd.ntmps38
  go_upto_region 5 with (first | ((with_reducible refine gate_dst (N := 9) rfl ?_); refine goesL_ (some 9) rfl rfl Tryd.func81 (by kernel_rfl) rfl #[.slice A0 l0.length c0] rfl (by (try simp only [List.map_toArray, List.map_cons, List.map_nil]); first | done | rfl) ?_; refine (impl_openVolume.calls A0 c0 l0 L at_ _ _ HM.out HR0.out HC0.out HLM.out HBY.out HCB.out).mono ?_; rintro e_ wq ⟨hh_, b_⟩; obtain ⟨_, hlen_, g, rfl, hg_, hge_⟩ := (hh_.resolve_right (fun h_ => h_.1 rfl)); refine ⟨_, rfl, ?_⟩; have HG := Aside0.mk hg_; clear hg_ hge_ hlen_ hh_; have HBn := Aside0.mk (below_then HB.out HB.out.size b_); clear b_; clear HB; have HB := HBn; clear HBn; obtain ⟨wm, rfl⟩ : ∃ x, x = wq := ⟨_, rfl⟩) | ((with_reducible refine gate_dst (N := 18) rfl ?_); refine goesL_ (some 18) rfl rfl Tryd.func82 (by kernel_rfl) rfl #[.pointer (some ⟨g, 0, none⟩)] rfl (by (try simp only [List.map_toArray, List.map_cons, List.map_nil]); first | done | rfl) ?_; refine (volSnaps_told A0 c0 l0 L at_ g _ HG.out HCH.out (Kd.C_below HV.out HB.out) (Kd.C_below HR0.out HB.out) HC0.out HLM.out HBY.out).mono ?_; rintro e_ wq ⟨vv, ev, rfl, he_, ho_, b_⟩; rw [← HF.out] at he_ ho_; refine ⟨_, rfl, ?_⟩; have HE := Aside0.mk he_; have OO := Aside0.mk (Kd.R_mono (ok' := fun _ => True) (Kd.R_lower ho_ HB.out.size) (fun _ _ => trivial)); clear he_ ho_ HG; have HBn := Aside0.mk (below_then HB.out HB.out.size b_); clear b_; clear HB; have HB := HBn; clear HBn; obtain ⟨wm, rfl⟩ : ∃ x, x = wq := ⟨_, rfl⟩))
  rcases HE.out with ⟨h0, rfl⟩ | ⟨h0, rfl⟩
  · have H0_ := Aside0.mk h0
    clear h0
    go_wp2_with (first | ((with_reducible refine gate_dst (N := 23) rfl ?_); refine goesL_ (some 23) rfl rfl Tryd.func59 (by kernel_rfl) rfl #[.nilIface] rfl (by (try simp only [List.map_toArray, List.map_cons, List.map_nil]); first | done | rfl) ?_; refine (impl_codeOf.nil _).mono ?_; rintro e_ wq ⟨rfl, b_⟩; refine ⟨_, rfl, ?_⟩; have OOn := Aside0.mk (Kd.R_below OO.out b_); have HBn := Aside0.mk (below_then HB.out HB.out.size b_); clear b_; clear OO HB; have OO := OOn; have HB := HBn; clear OOn HBn; obtain ⟨wm, rfl⟩ : ∃ x, x = wq := ⟨_, rfl⟩))
    go_ret2
    exact ⟨vv, by (try rw [H0_.out]); (try rfl), OO.out, HB.out⟩
  · have H0_ := Aside0.mk h0
    clear h0
    go_wp2_with (first | ((with_reducible refine gate_dst (N := 23) rfl ?_); refine goesL_ (some 23) rfl rfl Tryd.func59 (by kernel_rfl) rfl #[.iface 152 (.int .i64 21)] rfl (by (try simp only [List.map_toArray, List.map_cons, List.map_nil]); first | done | rfl) ?_; refine (impl_codeOf.hit 21 _ (ea_kept HB.out HGE.out (ea_lt HGE.out))).mono ?_; rintro e_ wq ⟨rfl, b_⟩; refine ⟨_, rfl, ?_⟩; have OOn := Aside0.mk (Kd.R_below OO.out b_); have HBn := Aside0.mk (below_then HB.out HB.out.size b_); clear b_; clear OO HB; have OO := OOn; have HB := HBn; clear OOn HBn; obtain ⟨wm, rfl⟩ : ∃ x, x = wq := ⟨_, rfl⟩))
    go_ret2
    exact ⟨vv, by (try rw [H0_.out]); (try rfl), OO.out, HB.out⟩
end Go.Proofs.YtknlpjoidjgciaaDoor.PFnExactSnapshots
