/- TellAns: the builder. -/
import Derived.Test.YtknlpjoidjgciaaDoorTlc
import Derived.Shelf.Strings.Builder1
namespace Go.Proofs.YtknlpjoidjgciaaDoor.PFnExactTellAns
open Go.RowKit Go.Proofs.YtknlpjoidjgciaaDoorW.PrintWords Go.Proofs.YtknlpjoidjgciaaDoorW.PrintLast Go.Proofs.YtknlpjoidjgciaaDoorW.PrintMore
open Go.Proofs.YtknlpjoidjgciaaDoorW Go.Proofs.YtknlpjoidjgciaaDoorW.PrintHand Go.Proofs.YtknlpjoidjgciaaDoorW.PrintHx
attribute [local go_sem] max2_int min2_int max_two min_two max_three min_three max_four min_four
set_option linter.unusedVariables false
set_option linter.unusedSimpArgs false

def cc_ren : Go.Shelf.Ren := ⟨fun | 240 => 115 | 276 => 152 | n => n, fun | 0 => 0 | 4 => 4 | 9 => 9 | 20 => 20 | 37 => 22 | 70 => 144 | 72 => 146 | 164 => 195 | n => n, fun | n => n⟩
theorem cc_lays : Go.Proofs.Lays.n240 Tryd.prog cc_ren := {
  mixed := by kernel_rfl
  f240 := Tryd.func115.trans (congrArg some (by kernel_rfl))
  f276 := Tryd.func152.trans (congrArg some (by kernel_rfl))
  t0 := Tryd.underlying0
  a0 := Tryd.isAgg0
  z0 := Tryd.sizeOf0
  v0 := Tryd.zeroValue0
  t4 := Tryd.underlying4
  a4 := Tryd.isAgg4
  z4 := Tryd.sizeOf4
  v4 := Tryd.zeroValue4
  t9 := Tryd.underlying9
  a9 := Tryd.isAgg9
  z9 := Tryd.sizeOf9
  v9 := Tryd.zeroValue9
  t20 := Tryd.underlying20
  a20 := Tryd.isAgg20
  z20 := Tryd.sizeOf20
  v20 := Tryd.zeroValue20
  t70 := Tryd.underlying144
  a70 := Tryd.isAgg144
  z70 := Tryd.sizeOf144
  v70 := Tryd.zeroValue144
  t72 := Tryd.underlying146
  a72 := Tryd.isAgg146
  z72 := Tryd.sizeOf146
  v72 := Tryd.zeroValue146
  t164 := Tryd.underlying195
  a164 := Tryd.isAgg195
  z164 := Tryd.sizeOf195
  v164 := Tryd.zeroValue195 }
theorem cc_X : Go.Proofs.Builder.X72 Tryd.prog cc_ren := {
  sizeBuilder := by kernel_rfl
  liesBuilder := by kernel_rfl }
theorem Copy_told (b : Nat) (p v : Value) (w : World) (hp : p = .pointer none ∨ p = .pointer (some ⟨b, 0, none⟩)) (hg : w.heap[b]? = some (.cells #[p, v] 146 (0, 0))) : Calls Tryd.prog 115 #[.pointer (some ⟨b, 0, none⟩)] w fun e w' => e = .returned (.tuple #[]) ∧ PrintHand.Touch b w w' ∧ w'.heap[b]? = some (.cells #[.pointer (some ⟨b, 0, none⟩), v] 146 (0, 0)) := by
  have hc : w.cell? ⟨b, 0, none⟩ = some p := by simp [World.cell?, hg]
  rcases hp with rfl | rfl
  · refine (Any.Builder_copyCheck_fresh cc_lays cc_X b w hc (by simp [World.shape?, hg]; rfl) (by simp [World.frozen?, hg])).mono ?_
    rintro e w' ⟨rfl, rfl⟩
    refine ⟨rfl, ⟨rfl, rfl, rfl, by simp [World.setCell], fun k hk => Below.heap_setCell _ _ _ _ hk⟩, ?_⟩
    simp [World.setCell, Array.getElem?_modify, hg]
  · refine (Any.Builder_copyCheck_used cc_lays cc_X b w hc).mono ?_
    rintro e w' ⟨rfl, rfl⟩
    exact ⟨rfl, ⟨rfl, rfl, rfl, rfl, fun k hk => rfl⟩, hg⟩
set_option maxHeartbeats 8000000 in
set_option maxRecDepth 100000 in
theorem WriteByte_told (B b : Nat) (p v : Value) (xs : List Int) (ok : Nat → Prop) (c : Int) (w w0 : World) (hp : p = .pointer none ∨ p = .pointer (some ⟨b, 0, none⟩)) (hg : w.heap[b]? = some (.cells #[p, v] 146 (0, 0))) (hO : Kd.R (Kd.int .u8) 5 w B ok v xs) (hokb : ∀ k, ok k → k ≠ b) (hfr : ∀ k, w.heap.size ≤ k → ok k) (hb : Below B w0 w) (hB : B ≤ b) (hBs : B ≤ w.heap.size) (hx : xs.length ≤ 20000000000) :
    Calls Tryd.prog 88 #[.pointer (some ⟨b, 0, none⟩), .int .u8 c] w fun e w' => e = .returned .nilIface ∧ ∃ v', w'.heap[b]? = some (.cells #[.pointer (some ⟨b, 0, none⟩), v'] 146 (0, 0)) ∧ Kd.R (Kd.int .u8) 5 w' B ok v' (xs ++ [c]) ∧ Below B w0 w' ∧ (∀ k, k < w.heap.size → k ≠ b → ¬ ok k → w'.heap[k]? = w.heap[k]?) ∧ w.heap.size ≤ w'.heap.size := by
  have HP := Aside0.mk hp
  have G := Aside0.mk hg
  have O := Aside0.mk hO
  have OKB := Aside0.mk hokb
  have FR := Aside0.mk hfr
  have HBB := Aside0.mk hb
  have BS := Aside0.mk hBs
  have HX := Aside0.mk hx
  clear hp hg hO hokb hfr hb hBs hx
  go_enter Tryd.func88, Tryd.ntmps88
  go_wp2_with (first | ((with_reducible refine gate_dst (N := 6) rfl ?_); refine goesL_ (some 6) rfl rfl Tryd.func115 (by kernel_rfl) rfl #[.pointer (some ⟨b, 0, none⟩)] rfl (by (try simp only [List.map_toArray, List.map_cons, List.map_nil]); first | done | rfl) ?_; refine (Copy_told b p v w HP.out G.out).mono ?_; rintro e_ w1 ⟨rfl, t_, g_⟩; refine ⟨_, rfl, ?_⟩; have T1 := Aside0.mk t_; have G1 := Aside0.mk g_; have O1 := Aside0.mk (Kd.R_kept O.out (kept_touch t_) (fun k_ hk_ (he_ : k_ = b) => OKB.out k_ hk_ he_)); have B1 := Aside0.mk (t_.below HBB.out hB); clear t_ g_) | ((with_reducible refine gate_dst (N := 11) rfl ?_); refine wpList_ld1 rfl 22 (.tmp 10) rfl b 1 rfl v Tryd.underlying22 rfl G1.out rfl ?_) | ((with_reducible refine gate_builtin (b := .append) (xs := #[.tmp 11, .tmp 13]) rfl ?_); at_builtin; refine Kd.R_append (Kd.int .u8) (w0 := w0) B rfl (.tmp 11) (.tmp 13) 22 5 (.int .u8 0) 1 rfl Tryd.underlying22 info5 rfl (by decide) (by omega) v xs c [.int .u8 c] ok (fun _ => False) rfl rfl ?aP (fun _ hk => hk.elim) ?aF ?aO ?aB ?aS ?aL ?_; (case aP => exact rfl); (case aB => exact B1.out); (case aF => exact (fun k_ hk_ => FR.out k_ (by rw [← T1.out.size]; exact hk_))); (case aO => exact O1.out); (case aS => rw [T1.out.size]; exact BS.out); (case aL => have := HX.out; omega); intro vn w2 ho_ hb_ hg_ hat_; obtain ⟨An, cn, rfl⟩ := Kd.R_slice ho_; rw [show (xs ++ [c]).length = xs.length + 1 from (by simp)] at ho_; rw [show (xs ++ [c]).length = xs.length + 1 from (by simp)]; have G2 : Aside0 (w2.heap[b]? = some (.cells #[.pointer (some ⟨b, 0, none⟩), v] 146 (0, 0))) := ⟨by rw [hg_.block b (blk_lt G1.out) (fun e_ => OKB.out b (O1.out.1 b e_.symm) rfl)]; exact G1.out⟩; have K2 : Aside0 (∀ k, k < w.heap.size → k ≠ b → ¬ ok k → w2.heap[k]? = w.heap[k]?) := ⟨fun k h1 h2 h3 => by rw [hg_.block k (by rw [T1.out.size]; exact h1) (fun e_ => h3 (O1.out.1 k e_.symm))]; exact T1.out.other k h2⟩; have S2 : Aside0 (w.heap.size ≤ w2.heap.size) := ⟨by rw [← T1.out.size]; exact hg_.size⟩; have O2 := Aside0.mk ho_; have B2 := Aside0.mk hb_; clear ho_ hb_ hg_ hat_) | ((with_reducible refine gate_store (t := 22) (p := 16) (v := .tmp 14) rfl ?_); refine wpList_st rfl rfl 22 (.tmp 16) (.tmp 14) rfl b 1 rfl _ rfl [.slice An (xs.length + 1) cn] #[.pointer (some ⟨b, 0, none⟩), .slice An (xs.length + 1) cn] rfl (by kernel_rfl) rfl G2.out (by simp) rfl ?_; intro w3 t_ g_; have T3 := Aside0.mk t_; have G3 := Aside0.mk g_; have O3 := Aside0.mk (Kd.R_kept O2.out (kept_touch t_) (fun k_ hk_ (he_ : k_ = b) => OKB.out k_ hk_ he_)); have B3 := Aside0.mk (t_.below B2.out hB); clear t_ g_))
  go_ret
  exact ⟨rfl, _, G3.out, O3.out, B3.out, fun k h1 h2 h3 => (T3.out.other k h2).trans (K2.out k h1 h2 h3), by rw [T3.out.size]; exact S2.out⟩
end Go.Proofs.YtknlpjoidjgciaaDoor.PFnExactTellAns
