-- Written by a program of this session (patch_print.py over the kit print)
import Derived.Test.YtjhaofdnlnbajaaPFnFreex0
import Derived.Test.YtjhaofdnlnbajaaPFnFreex2
import Derived.Test.YtjhaofdnlnbajaaPFnFreex3
namespace Go.Proofs.Ytjhaofdnlnbajaa.PFnFree
open Go.RowKit Go.Proofs.YtjhaofdnlnbajaaW.PrintWords Go.Proofs.YtjhaofdnlnbajaaW.PrintLast Go.Proofs.YtjhaofdnlnbajaaW.PrintMore
attribute [local go_sem] max2_int min2_int max_two min_two max_three min_three max_four min_four   -- for this text's walks alone
set_option linter.unusedVariables false
set_option linter.unusedSimpArgs false

open Go.Proofs.YtjhaofdnlnbajaaW Go.Proofs.YtjhaofdnlnbajaaW.PrintHand Go.Proofs.YtjhaofdnlnbajaaW.PrintHx
/-! ### impl_MapFree: function 45 -/
section
open Go.Shelf
attribute [local go_sem] Oper.semAt_some
def mf_order (c m : Nat) : List Nat := List.range' c (m - c) ++ List.range' 2 (c - 2)
def mf_Kp (B1 B2 : Nat) (W W' : World) : Prop := W'.heap[B1]? = W.heap[B1]? ∧ W'.heap[B2]? = W.heap[B2]?
theorem mf_grow {m : Nat} {s b : Nat} (pre : List (Fin m)) (hb : b < m) (l : List Nat) (hs : s ≤ b) (h : pre.map Fin.val = l ++ List.range' s (b - s)) : (pre ++ [(⟨b, hb⟩ : Fin m)]).map Fin.val = l ++ List.range' s (b + 1 - s) := by
  rw [List.map_append, h, show b + 1 - s = (b - s) + 1 by omega, List.range'_1_concat, show s + (b - s) = b by omega]
  simp
theorem mf_short {m : Nat} {pre : List (Fin m)} {l : List Nat} (h : pre.map Fin.val = l) : pre.length = l.length := by rw [← h, List.length_map]
theorem mf_pre1 {m c b : Nat} {pre : List (Fin m)} (hb : b ≤ m) (h : pre.map Fin.val = List.range' c (b - c)) : pre.map Fin.val <+: mf_order c m := by
  rw [h]
  refine List.IsPrefix.trans ?_ (List.prefix_append _ _)
  exact ⟨List.range' (c + (b - c)) (m - c - (b - c)), by rw [List.range'_append_1]; congr 1; omega⟩
theorem mf_pre2 {m c b : Nat} {pre : List (Fin m)} (hb : b ≤ c) (h : pre.map Fin.val = List.range' c (m - c) ++ List.range' 2 (b - 2)) : pre.map Fin.val <+: mf_order c m := by
  rw [h]
  exact ⟨List.range' (2 + (b - 2)) (c - 2 - (b - 2)), by unfold mf_order; rw [List.append_assoc, List.range'_append_1]; congr 2; omega⟩
set_option maxRecDepth 100000 in
set_option maxHeartbeats 2000000 in
theorem mf_around1_in (F : Fence) (n : Nat) (h68 : F.fn 68) (hro : F.round = none) (hn : 1 ≤ n) (l B1 B2 m c : Nat) (hm : m ≤ 1000000) (hc : 2 ≤ c) (hcm : c < m) (J Jx : List (Fin m) → World → Prop)
    (hY : ∀ pre x W, J pre W → pre.length < m → YieldAt F (n - 1) Try.prog l #[.int .i64 (x.val : Int)] W fun e W' =>
      (e = .returned (.bool true) ∧ J (pre ++ [x]) W' ∧ mf_Kp B1 B2 W W') ∨ (e = .returned (.bool false) ∧ Jx (pre ++ [x]) W'))
    (W : World) (h1 : Boxed W B1 3 (.int .i64 (c : Int))) (h2 : Boxed W B2 3 (.int .i64 (m : Int))) (h0 : J [] W) :
    CallsIn F n Try.prog 68 #[.func (.yield l) #[] #[], .pointer (some ⟨B1, 0, none⟩), .pointer (some ⟨B2, 0, none⟩)] W fun e W' => (∃ v, e = .returned v) ∧
      ((∃ ys : List (Fin m), ys.map Fin.val = mf_order c m ∧ J ys W') ∨ (∃ pre : List (Fin m), pre.map Fin.val <+: mf_order c m ∧ Jx pre W')) := by
  refine callsIn_of_wp Try.func68 rfl h68 ?_ hro
  simp only [Try.ntmps68, List.size_toArray, List.length_cons, List.length_nil, Nat.reduceAdd, Nat.reduceSub, Array.replicate_succ, Array.replicate_zero, List.push_toArray, List.append_toArray, List.nil_append, List.cons_append]
  have hc1 := h1.cell
  gi_wp2
  gi_loopw [4] (fun v wr => ∃ (b : Nat) (pre : List (Fin m)), v = .int .i64 (b : Int) ∧ c ≤ b ∧ b ≤ m ∧ pre.map Fin.val = List.range' c (b - c) ∧ J pre wr ∧ Boxed wr B1 3 (.int .i64 (c : Int)) ∧ Boxed wr B2 3 (.int .i64 (m : Int)))
    (fun v _ => m - (intOf v).toNat)
  case atStart =>
    exact ⟨c, [], rfl, Nat.le_refl _, by omega, by simp, h0, h1, h2⟩
  case round =>
    obtain ⟨b, pre, rfl, hcb, hbm, hp, hJs, g1, g2⟩ := hrel
    have hc2 := g2.cell
    by_cases hlt : b < m
    · have d1 : decide ((b : Int) < (m : Int)) = true := decide_eq_true (by omega)
      obtain ⟨fn, tmps, assign, body, hy, hR⟩ := hY pre ⟨b, hlt⟩ wr hJs (by have := mf_short hp; simp at this; omega)
      dsimp only at hy
      gi_wp2
      refine hR.mono ?_
      rintro e W3 (⟨rfl, hJ3, hk3⟩ | ⟨rfl, hJx3⟩)
      · have g13 : Boxed W3 B1 3 (.int .i64 (c : Int)) := hk3.1.trans g1
        have g23 : Boxed W3 B2 3 (.int .i64 (m : Int)) := hk3.2.trans g2
        gi_wp2
        go_roundw
        case rel => exact ⟨b + 1, _, rfl, by omega, by omega, mf_grow pre hlt [] hcb (by simpa using hp), hJ3, g13, g23⟩
        case measure => show m - ((b : Int) + 1).toNat < m - ((b : Int)).toNat; omega
      · gi_wp2
        refine bodyPost_ret (results_none rfl _ _ _) rfl ?_
        exact ⟨⟨_, rfl⟩, .inr ⟨_, mf_pre1 (b := b + 1) (by omega) (mf_grow pre hlt [] hcb (by simpa using hp)), hJx3⟩⟩
    · have d1 : decide ((b : Int) < (m : Int)) = false := decide_eq_false (by omega)
      have hp0 : pre.map Fin.val = List.range' c (m - c) := by rw [hp, show b = m by omega]
      gi_wp2
      gi_loopw [5] (fun v wr => ∃ (b : Nat) (pre : List (Fin m)), v = .int .i64 (b : Int) ∧ 2 ≤ b ∧ b ≤ c ∧ pre.map Fin.val = List.range' c (m - c) ++ List.range' 2 (b - 2) ∧ J pre wr ∧ Boxed wr B1 3 (.int .i64 (c : Int)) ∧ Boxed wr B2 3 (.int .i64 (m : Int)))
        (fun v _ => m - (intOf v).toNat)
      case atStart =>
        exact ⟨2, pre, rfl, Nat.le_refl _, by omega, by simp [hp0], hJs, g1, g2⟩
      case round =>
        clear hJs g1 g2 hc2 hp hp0 hcb hbm d1 hlt
        obtain ⟨b, pre, rfl, hcb, hbm, hp, hJs, g1, g2⟩ := hrel
        have hc2 := g1.cell
        by_cases hlt : b < c
        · have d1 : decide ((b : Int) < (c : Int)) = true := decide_eq_true (by omega)
          obtain ⟨fn, tmps, assign, body, hy, hR⟩ := hY pre ⟨b, by omega⟩ _ hJs (by have := mf_short hp; simp at this; omega)
          dsimp only at hy
          gi_wp2
          refine hR.mono ?_
          rintro e W3 (⟨rfl, hJ3, hk3⟩ | ⟨rfl, hJx3⟩)
          · have g13 : Boxed W3 B1 3 (.int .i64 (c : Int)) := hk3.1.trans g1
            have g23 : Boxed W3 B2 3 (.int .i64 (m : Int)) := hk3.2.trans g2
            gi_wp2
            go_roundw
            case rel => exact ⟨b + 1, _, rfl, by omega, by omega, mf_grow pre (by omega) _ hcb hp, hJ3, g13, g23⟩
            case measure => show m - ((b : Int) + 1).toNat < m - ((b : Int)).toNat; omega
          · gi_wp2
            refine bodyPost_ret (results_none rfl _ _ _) rfl ?_
            exact ⟨⟨_, rfl⟩, .inr ⟨_, mf_pre2 (b := b + 1) (by omega) (mf_grow pre (by omega) _ hcb hp), hJx3⟩⟩
        · have d1 : decide ((b : Int) < (c : Int)) = false := decide_eq_false (by omega)
          gi_wp2
          go_end0
          exact ⟨⟨_, rfl⟩, .inl ⟨pre, by rw [hp, show b = c by omega]; rfl, hJs⟩⟩
set_option maxHeartbeats 1000000 in
theorem mf_around_in (F : Fence) (n : Nat) (h61 : F.fn 61) (hro : F.round = none) (c m : Int) (w : World) :
    CallsIn F n Try.prog 61 #[.int .i64 c, .int .i64 m] w fun e w' => e = .returned (.func (.func 68) #[] #[.pointer (some ⟨w.heap.size, 0, none⟩), .pointer (some ⟨w.heap.size + 1, 0, none⟩)]) ∧ w' = (w.alloc (.cells #[.int .i64 c] 3)).alloc (.cells #[.int .i64 m] 3) := by
  refine callsIn_of_wp Try.func61 rfl h61 ?_ hro
  simp only [Try.ntmps61, List.size_toArray, List.length_cons, List.length_nil, Nat.reduceAdd, Nat.reduceSub, Array.replicate_succ, Array.replicate_zero, List.push_toArray, List.append_toArray, List.nil_append, List.cons_append]
  gi_wp2
  go_ret
  exact ⟨by simp, rfl⟩
theorem mf_around_stops (F : Fence) (n : Nat) (h68 : F.fn 68) (hro : F.round = none) (hn : 1 ≤ n) (B1 B2 m c : Nat) (hm : m ≤ 1000000) (hc : 2 ≤ c) (hcm : c < m) (w : World)
    (h1 : Boxed w B1 3 (.int .i64 (c : Int))) (h2 : Boxed w B2 3 (.int .i64 (m : Int))) :
    SeqStopsK F n Try.prog 68 #[.pointer (some ⟨B1, 0, none⟩), .pointer (some ⟨B2, 0, none⟩)] (fun x : Fin m => #[Value.int .i64 (x.val : Int)]) (mf_Kp B1 B2) (fun ys => ys.map Fin.val = mf_order c m) (fun pre => pre.map Fin.val <+: mf_order c m) m w := fun l J Jx W hW _ _ hY h0 =>
  mf_around1_in F n h68 hro hn l B1 B2 m c hm hc hcm J Jx hY W ((hW.block _ h1.lt).trans h1) ((hW.block _ h2.lt).trans h2) h0
def mf_fr (l0 : List Int) (pre : List Nat) : List Int := (pre.filter (fun b : Nat => decide (rd l0 (b : Int) = 0))).map (fun b : Nat => (b : Int))
theorem mf_fr_hit (l0 : List Int) (pre : List Nat) {b : Nat} (h : rd l0 (b : Int) = 0) : mf_fr l0 (pre ++ [b]) = mf_fr l0 pre ++ [(b : Int)] := by simp [mf_fr, h]
theorem mf_fr_miss (l0 : List Int) (pre : List Nat) {b : Nat} (h : ¬ rd l0 (b : Int) = 0) : mf_fr l0 (pre ++ [b]) = mf_fr l0 pre := by simp [mf_fr, h]
theorem mf_fr_le (l0 : List Int) (pre : List Nat) : (mf_fr l0 pre).length ≤ pre.length := by unfold mf_fr; rw [List.length_map]; exact List.length_filter_le _ _
def mf_behind (b n : Int) : Int := if b = wrap64 (n - 1) then 2 else wrap64 (b + 1)
def mf_out (l0 : List Int) (c n : Int) : List Int := (mf_fr l0 (mf_order c.toNat l0.length)).take n.toNat
def mf_res (l0 : List Int) (a1 a2 : Int) : List Int × Int × Int :=
  if ((mf_out l0 a1 a2).length : Int) < a2 then ([], 0, 9) else (mf_out l0 a1 a2, (if 0 < a2 then mf_behind (rd (mf_out l0 a1 a2) (wrap64 (a2 - 1))) (l0.length : Int) else a1), 0)
def impl_MapFree.f (l0 : List Int) (a1 : Int) (a2 : Int) : Option (List Int × Int × Int) := (impl_mapRight.f l0).bind fun t => if t = true ∧ 2 ≤ a1 ∧ a1 ≤ wrap64 ((l0.length : Int) - 1) ∧ 0 ≤ a2 then some (mf_res l0 a1 a2) else some ([], 0, 7)
theorem mf_behind.calls (a0 a1 : Int) (w : World) : Calls Try.prog 62 #[.int .i64 a0, .int .i64 a1] w fun e w' => e = .returned (.int .i64 (mf_behind a0 a1)) ∧ Drawn0 w w' := by
  obtain ⟨r, hr⟩ : ∃ r, r = mf_behind a0 a1 := ⟨_, rfl⟩
  rw [← hr]
  have HR := Aside0.mk hr
  clear hr
  by_cases c : a0 = wrap64 (a1 - 1)
  · have HC := Aside0.mk c
    have hd : (a0 == wrap64 (a1 - 1)) = true := by simp [c]
    clear c
    go_enter Try.func62, Try.ntmps62
    go_wp2
    go_ret
    exact ⟨by rw [HR.out]; unfold mf_behind; rw [if_pos HC.out]; rfl, Drawn0.refl _⟩
  · have HC := Aside0.mk c
    have hd : (a0 == wrap64 (a1 - 1)) = false := by simp [c]
    clear c
    go_enter Try.func62, Try.ntmps62
    go_wp2
    go_ret
    exact ⟨by rw [HR.out]; unfold mf_behind; rw [if_neg HC.out]; rfl, Drawn0.refl _⟩
/-- 'out = append(out, b)', the row beyond base, the box ahead of it. -/
theorem mf_appended {W w1 : World} {base B : Nat} {t e : TypeId} {size : Nat} {v v' : Value} {k m : Nat} {xs ys : List Value} {tmp : Obj}
    (hv : Boxed W B t v) (hrow : W.ownsRow base e size v k xs) (hB : B < base) (hn₀ : base ≤ W.heap.size)
    (hown' : w1.ownsRow base e size v' m ys) (hgrow : (W.alloc tmp).grownBy w1 v.ownBlock) :
    Boxed w1 B t v ∧ Boxed (w1.setCell ⟨B, 0, none⟩ v') B t v' ∧ (w1.setCell ⟨B, 0, none⟩ v').ownsRow base e size v' m ys ∧ KeepsOthers W (w1.setCell ⟨B, 0, none⟩ v') ∧ (∀ j, j < base → j ≠ B → (w1.setCell ⟨B, 0, none⟩ v').heap[j]? = W.heap[j]?) ∧ (∀ n w, n ≤ B → Below n w W → Below n w (w1.setCell ⟨B, 0, none⟩ v')) := by
  have hne : some B ≠ v.ownBlock := fun h => by have := own_base hrow B h.symm; omega
  have hne' : v'.ownBlock = none ∨ v'.ownBlock ≠ some B := .inr fun h => by have := own_base hown' B h; omega
  have hv1 : Boxed w1 B t v := (hv.alloc tmp).kept hgrow hne
  refine ⟨hv1, hv1.set v', hown'.kept (grownBy_setCell' w1 B v') hne', ?_, ?_, ?_⟩
  · refine ((KeepsOthers.alloc W tmp).trans (KeepsOthers.of_grownBy hgrow fun j o ej hj => ?_)).trans (KeepsOthers.setCell _ _ _)
    rcases (hrow.alloc tmp).2 with ⟨rfl, _⟩ | ⟨g, cap, cur, rfl, _, hgb, _⟩
    · simp [Value.ownBlock] at ej
    · obtain rfl : g = j := by simpa [Value.ownBlock] using ej
      rw [hgb] at hj; cases hj; rfl
  · intro j hj hjB
    refine (Below.heap_setCell w1 ⟨B, 0, none⟩ v' j hjB).trans ((hgrow.block j (by simp; omega) fun h => ?_).trans (Below.heap_alloc W tmp j (by omega)))
    have := own_base hrow j h.symm; omega
  · intro n w hn hb
    refine ((hb.alloc (by omega) tmp).grown hgrow (by simp; omega) fun j ej => ?_).setCell (p := ⟨B, 0, none⟩) hn v'
    have := own_base hrow j ej; omega
theorem mf_hW (a b c : Int) : impl_within.f a b c = some (decide (b ≤ a ∧ a ≤ c)) := impl_mapRight.hW a b c
set_option maxRecDepth 100000 in
set_option maxHeartbeats 4000000 in
theorem impl_MapFree.early (A0 : Option Addr) (c0 : Nat) (l0 : List Int) (a1 a2 : Int) (t : Bool) (w : World) (hr0 : Kd.C (Kd.int .i64) w A0 l0.length l0) (hc0 : l0.length ≤ c0) (ht : impl_mapRight.f l0 = some t) (hb : ¬ (t = true ∧ 2 ≤ a1 ∧ a1 ≤ wrap64 ((l0.length : Int) - 1) ∧ 0 ≤ a2)) :
    CallsIn Fence.wide 4 Try.prog 45 #[.slice A0 l0.length c0, .int .i64 a1, .int .i64 a2] w fun e w' => e = .returned (.tuple #[.slice none 0 0, .int .i64 0, .int .i64 7]) ∧ Below w.heap.size w w' := by
  have HR0 := Aside0.mk hr0
  have HC0 := Aside0.mk hc0
  have HT := Aside0.mk ht
  have HB := Aside0.mk hb
  obtain ⟨b, hb'⟩ : ∃ b, b = decide (2 ≤ a1 ∧ a1 ≤ wrap64 ((l0.length : Int) - 1)) := ⟨_, rfl⟩
  have HW := Aside0.mk (show impl_within.f a1 2 (wrap64 ((l0.length : Int) - 1)) = some b by rw [mf_hW, hb'])
  have HBB := Aside0.mk hb'
  clear hr0 hc0 ht hb hb'
  refine callsIn_of_wp_marks Try.func45 rfl trivial ?_ rfl
  simp only [Try.ntmps45, List.size_toArray, List.length_cons, List.length_nil, Nat.reduceAdd, Nat.reduceSub, Array.replicate_succ, Array.replicate_zero, List.push_toArray, List.append_toArray, List.nil_append, List.cons_append]
  cases t
  · gi_wp2_with (first | (refine ⟨trivial, ?_⟩; gi_at_call 55; refine (callsIn_wide.2 (impl_mapRight.calls A0 c0 l0 false _ (Kd.C_below HR0.out (below_alloc (below_alloc (Below.refl _ _) _) _)) HC0.out HT.out)).mono ?_; rintro e_ w_ ⟨rfl, ⟨nd, rfl⟩⟩))
    refine ⟨trivial, ?_⟩
    gi_wp2
    exact ⟨_, results_tmp3 rfl _ _ _, rfl, pw_below_drewN (below_alloc (below_alloc (Below.refl _ _) _) _) _⟩
  · cases b
    · gi_wp2_with (first | (refine ⟨trivial, ?_⟩; gi_at_call 55; refine (callsIn_wide.2 (impl_mapRight.calls A0 c0 l0 true _ (Kd.C_below HR0.out (below_alloc (below_alloc (Below.refl _ _) _) _)) HC0.out HT.out)).mono ?_; rintro e_ w_ ⟨rfl, ⟨nd, rfl⟩⟩) | (refine ⟨trivial, ?_⟩; gi_at_call 47; refine (callsIn_wide.2 (impl_within.calls a1 2 (wrap64 ((l0.length : Int) - 1)) false _ HW.out)).mono ?_; rintro e_ w_ ⟨rfl, ⟨nd2, rfl⟩⟩))
      exact ⟨_, results_tmp3 rfl _ _ _, rfl, pw_below_drewN (below_alloc (below_alloc (Below.refl _ _) _) _) _⟩
    · have hn : decide (a2 < 0) = true := by
        have h1 := HBB.out
        have h2 := HB.out
        simp at h1
        simp
        exact Int.not_le.mp fun h => h2 ⟨rfl, h1.1, h1.2, h⟩
      gi_wp2_with (first | (refine ⟨trivial, ?_⟩; gi_at_call 55; refine (callsIn_wide.2 (impl_mapRight.calls A0 c0 l0 true _ (Kd.C_below HR0.out (below_alloc (below_alloc (Below.refl _ _) _) _)) HC0.out HT.out)).mono ?_; rintro e_ w_ ⟨rfl, ⟨nd, rfl⟩⟩) | (refine ⟨trivial, ?_⟩; gi_at_call 47; refine (callsIn_wide.2 (impl_within.calls a1 2 (wrap64 ((l0.length : Int) - 1)) true _ HW.out)).mono ?_; rintro e_ w_ ⟨rfl, ⟨nd2, rfl⟩⟩))
      exact ⟨_, results_tmp3 rfl _ _ _, rfl, pw_below_drewN (below_alloc (below_alloc (Below.refl _ _) _) _) _⟩
theorem mf_out_le (l0 : List Int) (c : Nat) (n : Int) (h2 : 2 ≤ c) (hc : c < l0.length) : (mf_out l0 (c : Int) n).length ≤ l0.length := by
  unfold mf_out
  rw [Int.toNat_natCast]
  rw [List.length_take]
  refine Nat.le_trans (Nat.min_le_right _ _) ?_
  refine Nat.le_trans (mf_fr_le _ _) ?_
  unfold mf_order
  rw [List.length_append, List.length_range', List.length_range']
  omega
theorem mf_take {l0 : List Int} {p q : List Nat} {n : Nat} (h : p <+: q) (hn : (mf_fr l0 p).length = n) : mf_fr l0 p = (mf_fr l0 q).take n := by
  have hp : mf_fr l0 p <+: mf_fr l0 q := by
    obtain ⟨t, rfl⟩ := h
    exact ⟨mf_fr l0 t, by simp [mf_fr]⟩
  rw [← hn]
  exact List.prefix_iff_eq_take.mp hp
theorem mf_hit_row {W : World} {base e : Nat} {v : Value} {m : Nat} {l0 : List Int} (pre : List (Fin m)) (x : Fin m) (h : rd l0 (x.val : Int) = 0) (hr : W.ownsRow base e 1 v ((mf_fr l0 (pre.map Fin.val)).length + 1) (nums .i64 (mf_fr l0 (pre.map Fin.val)) ++ [.int .i64 (x.val : Int)])) :
    W.ownsRow base e 1 v (mf_fr l0 ((pre ++ [x]).map Fin.val)).length (nums .i64 (mf_fr l0 ((pre ++ [x]).map Fin.val))) := by
  rw [List.map_append, List.map_cons, List.map_nil, mf_fr_hit _ _ h, nums_append, List.length_append]
  exact hr
theorem mf_boxes (w : World) (v0 v1 v2 v3 v4 : Value) (k : Nat) : ∃ W0, (((((w.alloc (.cells #[v0] 32)).alloc (.cells #[v1] 3)).drewN k).alloc (.cells #[v2] 32)).alloc (.cells #[v3] 3)).alloc (.cells #[v4] 3) = W0 ∧
    W0.heap.size = w.heap.size + 5 ∧ Below w.heap.size w W0 ∧ Boxed W0 w.heap.size 32 v0 ∧ Boxed W0 (w.heap.size + 1) 3 v1 ∧ Boxed W0 (w.heap.size + 1 + 1) 32 v2 ∧ Boxed W0 (w.heap.size + 1 + 1 + 1) 3 v3 ∧ Boxed W0 (w.heap.size + 1 + 1 + 1 + 1) 3 v4 := by
  have h0 := Boxed.new w 32 v0
  have h1 := Boxed.new (w.alloc (.cells #[v0] 32)) 3 v1
  have h2 := Boxed.new (((w.alloc (.cells #[v0] 32)).alloc (.cells #[v1] 3)).drewN k) 32 v2
  have h3 := Boxed.new ((((w.alloc (.cells #[v0] 32)).alloc (.cells #[v1] 3)).drewN k).alloc (.cells #[v2] 32)) 3 v3
  have h4 := Boxed.new (((((w.alloc (.cells #[v0] 32)).alloc (.cells #[v1] 3)).drewN k).alloc (.cells #[v2] 32)).alloc (.cells #[v3] 3)) 3 v4
  have dr : ∀ (W : World) (B : Nat) (t : TypeId) (v : Value), Boxed W B t v → Boxed (W.drewN k) B t v := fun W B t v h => h
  have hs : ∀ W : World, (W.drewN k).heap.size = W.heap.size := fun W => rfl
  simp only [World.size_alloc, hs] at h1 h2 h3 h4
  exact ⟨_, rfl, by simp [hs], below_alloc (below_alloc (below_alloc (pw_below_drewN (below_alloc (below_alloc (Below.refl _ _) _) _) _) _) _) _, (((dr _ _ _ _ (h0.alloc _)).alloc _).alloc _).alloc _, (((dr _ _ _ _ h1).alloc _).alloc _).alloc _, (h2.alloc _).alloc _, h3.alloc _, h4⟩
theorem mf_Kp_t {B1 B2 : Nat} {A B C : World} (h : mf_Kp B1 B2 A B) (k : mf_Kp B1 B2 B C) : mf_Kp B1 B2 A C := ⟨k.1.trans h.1, k.2.trans h.2⟩
theorem mf_Kp_b {B1 B2 : Nat} {w : World} (h1 : B1 < w.heap.size) (h2 : B2 < w.heap.size) (W : World) (l : Nat) (o o' : Obj) (hl : w.heap.size ≤ l) (_ : W.heap[l]? = some o) (_ : o.isCells = false) (_ : o.isWalk = false) : mf_Kp B1 B2 W (W.putObj l o') :=
  ⟨World.putObj_heap_other (by omega), World.putObj_heap_other (by omega)⟩
def mf_I (l0 : List Int) (n s S0 : Nat) (vw : Value) (w : World) (pre : List Nat) (W : World) : Prop :=
  (∃ v, Boxed W (s + 1 + 1) 32 v ∧ W.ownsRow S0 3 1 v (mf_fr l0 pre).length (nums .i64 (mf_fr l0 pre)) ∧ (mf_fr l0 pre).length ≤ n) ∧ (Below s w W ∧ S0 ≤ W.heap.size) ∧ Boxed W s 32 vw ∧ Boxed W (s + 1) 3 (.int .i64 (n : Int))
theorem mf_I_own (l0 : List Int) (n s S0 B : Nat) (vw : Value) (w : World) {α : Type} (g : α → List Nat) (hs : s ≤ w.heap.size) (hB : s ≤ B) : OwnFrom B (fun (a : α) W => mf_I l0 n s S0 vw w (g a) W) :=
  OwnFrom.and (Own.from (holdsRow_own S0 (s + 1 + 1) 32 3 1 (fun a => (mf_fr l0 (g a)).length) (fun a => nums .i64 (mf_fr l0 (g a))) (fun a _ => (mf_fr l0 (g a)).length ≤ n)) _) (OwnFrom.and (OwnFrom.and (ownFrom_below hs hB) (fun _ _ _ _ h hg _ => Nat.le_trans h hg.size)) (OwnFrom.and (Own.from (boxed_own s 32 (fun _ => vw)) _) (Own.from (boxed_own (s + 1) 3 (fun _ => .int .i64 (n : Int))) _)))
set_option maxRecDepth 100000 in
set_option maxHeartbeats 1000000 in
theorem impl_MapFree.main (A0 : Option Addr) (c0 : Nat) (l0 : List Int) (c n : Nat) (w : World) (hr0 : Kd.C (Kd.int .i64) w A0 l0.length l0) (hc0 : l0.length ≤ c0) (ht : impl_mapRight.f l0 = some true) (hlen : l0.length ≤ 2048) (hc2 : 2 ≤ c) (hcm : c < l0.length) :
    CallsIn Fence.wide 4 Try.prog 45 #[.slice A0 l0.length c0, .int .i64 (c : Int), .int .i64 (n : Int)] w fun e w' => ∃ (v0 : Value) (r1 : List Int) (r2 r3 : Int), e = .returned (.tuple #[v0, .int .i64 r2, .int .i64 r3]) ∧ w'.ownsRow w.heap.size 3 1 v0 r1.length (nums .i64 r1) ∧ Below w.heap.size w w' ∧
      mf_res l0 (c : Int) (n : Int) = (r1, r2, r3) := by
  have HR0 := Aside0.mk hr0
  have HC0 := Aside0.mk hc0
  have HT := Aside0.mk ht
  have HL := Aside0.mk hlen
  have hwr : wrap64 ((l0.length : Int) - 1) = (l0.length : Int) - 1 := by unfold wrap64; omega
  have HW := Aside0.mk (show impl_within.f (c : Int) 2 (wrap64 ((l0.length : Int) - 1)) = some true by rw [mf_hW, hwr, decide_eq_true (by omega)])
  have hnn : decide ((n : Int) < 0) = false := decide_eq_false (by omega)
  obtain ⟨i0, hi, hz0, hz1, hz2⟩ := info_parts (show (Try.prog.info? 3).map (fun i => (i.zero, i.size, i.bytes)) = some (some (.int .i64 0), 1, 8) by kernel_rfl)
  have HC2 := Aside0.mk hc2
  have HCM := Aside0.mk hcm
  have HI := Aside0.mk hi
  have HZ0 := Aside0.mk hz0
  have HZ1 := Aside0.mk hz1
  have HZ2 := Aside0.mk hz2
  clear hr0 hc0 ht hwr hc2 hcm hlen hi hz0 hz1 hz2
  refine callsIn_of_wp_marks Try.func45 rfl trivial ?_ rfl
  simp only [Try.ntmps45, List.size_toArray, List.length_cons, List.length_nil, Nat.reduceAdd, Nat.reduceSub, Array.replicate_succ, Array.replicate_zero, List.push_toArray, List.append_toArray, List.nil_append, List.cons_append]
  gi_wp2_with (first | (refine ⟨trivial, ?_⟩; gi_at_call 55; refine (callsIn_wide.2 (impl_mapRight.calls A0 c0 l0 true _ (Kd.C_below HR0.out (below_alloc (below_alloc (Below.refl _ _) _) _)) HC0.out HT.out)).mono ?_; rintro e_ w_ ⟨rfl, ⟨nd, rfl⟩⟩) | (refine ⟨trivial, ?_⟩; gi_at_call 47; refine (callsIn_wide.2 (impl_within.calls (c : Int) 2 (wrap64 ((l0.length : Int) - 1)) true _ HW.out)).mono ?_; rintro e_ w_ ⟨rfl, ⟨nd2, rfl⟩⟩) | (refine ⟨trivial, ?_⟩; gi_at_call 61; refine (mf_around_in Fence.wide _ trivial rfl (c : Int) (l0.length : Int) _).mono ?_; rintro e_ w_ ⟨rfl, rfl⟩))
  obtain ⟨W0, hW0, hS, hB0, b0, b1, b2, b3, b4⟩ := mf_boxes w (.slice A0 l0.length c0) (.int .i64 (n : Int)) (.slice none 0 0) (.int .i64 (c : Int)) (.int .i64 (l0.length : Int)) (nd + nd2)
  rw [hW0]
  clear hW0
  refine wpIn_rangeFunc_ownG rfl (by decide) (gf := 68) (lb := #[.pointer (some ⟨w.heap.size + 1 + 1 + 1, 0, none⟩), .pointer (some ⟨w.heap.size + 1 + 1 + 1 + 1, 0, none⟩)]) rfl trivial (enters_of Try.func68 (by kernel_rfl) rfl)
    (mf_around_stops Fence.wide (4 - 1) trivial rfl (by decide) (w.heap.size + 1 + 1 + 1) (w.heap.size + 1 + 1 + 1 + 1) l0.length c (by have := HL.out; omega) HC2.out HCM.out W0 b3 b4) mf_Kp_t (mf_Kp_b (by omega) (by omega)) (Below.refl _ _) (fun _ => rfl)
    (fun pre W => mf_I l0 n w.heap.size W0.heap.size (.slice A0 l0.length c0) w (pre.map Fin.val) W)
    (fun cd pre W => (cd = .exit 0 ∧ (mf_fr l0 (pre.dropLast.map Fin.val)).length = n) ∧ mf_I l0 n w.heap.size W0.heap.size (.slice A0 l0.length c0) w (pre.dropLast.map Fin.val) W)
    (mf_I_own l0 n _ _ _ _ w _ (Nat.le_refl _) (by omega))
    (fun cd => OwnFrom.and (ownFrom_pure _ _) (mf_I_own l0 n _ _ _ _ w _ (Nat.le_refl _) (by omega)))
    ⟨⟨_, b2, own_nil _ _ _ _, Nat.zero_le _⟩, ⟨hB0, Nat.le_refl _⟩, b0, b1⟩
    (fun x => { tmps := #[.slice A0 l0.length c0, .int .i64 (c : Int), .int .i64 (n : Int), .pointer (some ⟨w.heap.size, 0, none⟩), undef, .pointer (some ⟨w.heap.size + 1, 0, none⟩), .slice none 0 0, .int .i64 0, .int .i64 0, .pointer (some ⟨w.heap.size + 1 + 1, 0, none⟩), .int .i64 (x.val : Int), .slice A0 l0.length c0, .bool true, .bool false, .bool false, .int .i64 (c : Int), .slice A0 l0.length c0, .int .i64 (l0.length : Int), .int .i64 (wrap64 ((l0.length : Int) - 1)), .bool true, .bool false, .bool false, .bool false, .int .i64 (n : Int), .bool false, .bool false, .int .i64 (c : Int), .slice A0 l0.length c0, .int .i64 (l0.length : Int), .func (.func 68) #[] #[.pointer (some ⟨w.heap.size + 1 + 1 + 1, 0, none⟩), .pointer (some ⟨w.heap.size + 1 + 1 + 1 + 1, 0, none⟩)], .int .i64 (x.val : Int), undef, undef, undef, undef, undef, undef, undef, undef, undef, undef, undef, undef, undef, undef, undef, undef, undef, undef, undef, undef, undef, undef, undef, undef, undef, undef, undef, undef, undef], defers := [] }) ?assign ?body ?done ?stop
  case assign =>
    intro l x W K hK
    gi_wp2
    exact hK
  case body =>
    rintro l pre x W ⟨⟨v, hv, hrow, hle⟩, ⟨hB, hWS⟩, hbw, hbn⟩ hlt
    have hx0 : (0 : Int) ≤ (x.val : Int) := by omega
    have hx1 : (x.val : Int) < (l0.length : Int) := by have := x.isLt; omega
    obtain ⟨ad, rfl, hrd⟩ := Kd.at_int (Kd.C_below HR0.out hB) (x.val : Int) hx0 hx1
    obtain ⟨A, cc, rfl, _⟩ := own_reads hrow
    have hc := hv.cell
    have hcw := hbw.cell
    have hcn := hbn.cell
    rw [Int.toNat_natCast] at hrd
    have hfl : (mf_fr l0 (pre.map Fin.val)).length ≤ pre.length := by have := mf_fr_le l0 (pre.map Fin.val); rwa [List.length_map] at this
    have hdl : (pre ++ [x]).dropLast = pre := List.dropLast_concat
    by_cases h1 : (mf_fr l0 (pre.map Fin.val)).length = n
    · have e1 : (((mf_fr l0 (pre.map Fin.val)).length : Int) == (n : Int)) = true := by simp [h1]
      have H1 := Aside0.mk h1
      clear h1
      gi_wp2
      exact ⟨KeepsFrom.refl _ _, ⟨rfl, by rw [hdl]; exact H1.out⟩, by rw [hdl]; exact ⟨⟨_, hv, hrow, hle⟩, ⟨hB, hWS⟩, hbw, hbn⟩⟩
    · have e1 : (((mf_fr l0 (pre.map Fin.val)).length : Int) == (n : Int)) = false := by simp; omega
      have H1 := Aside0.mk h1
      have HLT := Aside0.mk hlt
      have HLE := Aside0.mk hle
      have HFL := Aside0.mk hfl
      clear h1 hle hlt hfl
      by_cases h2 : rd l0 (x.val : Int) = 0
      · have e2 : (rd l0 (x.val : Int) == 0) = true := by simp [h2]
        have H2 := Aside0.mk h2
        clear h2
        have hk1 : (mf_fr l0 (pre.map Fin.val)).length + 1 ≤ maxLen := by have := HFL.out; have := HLT.out; have := HL.out; unfold maxLen; omega
        have hk2 : ((mf_fr l0 (pre.map Fin.val)).length + 1) * 8 ≤ 140737488355328 := by have := HFL.out; have := HLT.out; have := HL.out; omega
        have HK1 := Aside0.mk hk1
        have HK2 := Aside0.mk hk2
        clear hk1 hk2
        gi_wp2_with (gi_at_builtin; refine wpListIn_append_own _ rfl _ _ 32 rfl W0.heap.size 3 i0 (.int .i64 0) 1 8 Try.underlying32 HI.out HZ0.out HZ1.out HZ2.out rfl (by decide) _ _ _ rfl (hrow.alloc _) ⟨W.heap.size, 0, none⟩ 1 1 [.int .i64 (x.val : Int)] rfl rfl (cell_one_new _ _ _) (by simp [Value.oneCell']) HK1.out HK2.out (by simp; omega) ?_; intro v' w1 hown' hgrow _; obtain ⟨g', cap', rfl⟩ := ownsRow_succ hown'; obtain ⟨hv1, hv2, hr2, hk2, hj2, hb2⟩ := mf_appended hv hrow (by omega) hWS hown' hgrow; have hc1 := hv1.cell; have hf1 := hv1.frozen)
        have hs : Below w.heap.size w (w1.setCell ⟨w.heap.size + 1 + 1, 0, none⟩ _) := hb2 _ _ (by omega) hB
        exact ⟨hk2.from _, ⟨hj2 _ (by omega) (by omega), hj2 _ (by omega) (by omega)⟩, ⟨_, hv2, mf_hit_row _ _ H2.out hr2, by rw [List.map_append, List.map_cons, List.map_nil, mf_fr_hit _ _ H2.out]; simp; have := H1.out; have := HLE.out; omega⟩, ⟨hs, Nat.le_trans hWS hk2.size⟩, (hj2 _ (by omega) (by omega)).trans hbw, (hj2 _ (by omega) (by omega)).trans hbn⟩
      · have e2 : (rd l0 (x.val : Int) == 0) = false := by simp [h2]
        have H2 := Aside0.mk h2
        clear h2
        gi_wp2
        have hm : mf_fr l0 ((pre ++ [x]).map Fin.val) = mf_fr l0 (pre.map Fin.val) := by rw [List.map_append, List.map_cons, List.map_nil, mf_fr_miss _ _ H2.out]
        exact ⟨KeepsFrom.refl _ _, ⟨rfl, rfl⟩, ⟨_, hv, by rw [hm]; exact hrow, by rw [hm]; exact HLE.out⟩, ⟨hB, hWS⟩, hbw, hbn⟩
  case done =>
    rintro D xs W hD hxs ⟨⟨v, hv, hrow, hle⟩, ⟨hB, hWS⟩, hbw, hbn⟩ hK
    have hout : mf_fr l0 (xs.map Fin.val) = mf_out l0 (c : Int) (n : Int) := by
      unfold mf_out
      rw [Int.toNat_natCast, Int.toNat_natCast, ← hxs, List.take_of_length_le hle]
    obtain ⟨o, ho⟩ : ∃ o, o = mf_fr l0 (xs.map Fin.val) := ⟨_, rfl⟩
    rw [← ho] at hrow hle hout
    clear ho
    obtain ⟨A, cc, rfl, hreads⟩ := own_reads hrow
    have hc := hv.cell
    have hcw := hbw.cell
    have hcn := hbn.cell
    have HRD := Aside0.mk hreads
    have HLE := Aside0.mk hle
    have HO := Aside0.mk hout
    have HD := Aside0.mk (show w.heap.size ≤ D by omega)
    clear hreads hle hout
    by_cases h1 : o.length < n
    · have d1 : decide ((o.length : Int) < (n : Int)) = true := decide_eq_true (by omega)
      have d1' : decide (o.length < n) = true := decide_eq_true h1
      have H1 := Aside0.mk h1
      clear h1
      gi_wp2
      refine ⟨by simp, .inl ⟨_, _, rfl, run_takeDeferred hK, ?_⟩⟩
      exact ⟨_, results_tmp3 rfl _ _ _, _, [], 0, 9, rfl, own_nil _ _ _ _, hB.trans (belowK_b (w := w) (Nat.le_refl _) W D _ _ HD.out hK rfl rfl), by unfold mf_res; rw [← HO.out, if_pos (by have := H1.out; omega)]⟩
    · have d1 : decide ((o.length : Int) < (n : Int)) = false := decide_eq_false (by omega)
      have d1' : decide (o.length < n) = false := decide_eq_false h1
      have H1 := Aside0.mk h1
      clear h1
      by_cases h2 : 0 < n
      · have d2 : decide ((n : Int) > 0) = true := decide_eq_true (by omega)
        have d2' : decide (0 < n) = true := decide_eq_true h2
        have H2 := Aside0.mk h2
        clear h2
        have hol : o.length = n := by have := H1.out; have := HLE.out; omega
        have hw : wrap64 ((n : Int) - 1) = (n : Int) - 1 := by have h1_ := mf_out_le l0 c (n : Int) HC2.out HCM.out; have h2_ := HL.out; have h3_ := H2.out; rw [← HO.out, hol] at h1_; unfold wrap64; omega
        obtain ⟨ad', rfl, hcell⟩ := ReadsInt.at_ HRD.out (wrap64 ((n : Int) - 1)) (by rw [hw]; have := H2.out; omega) (by rw [hw]; omega)
        have hq1 : (0 ≤ wrap64 ((n : Int) - 1)) = True := eq_true (by rw [hw]; have := H2.out; omega)
        have hq2 : (wrap64 ((n : Int) - 1) < (o.length : Int)) = True := eq_true (by rw [hw]; omega)
        have hq3 : ((wrap64 ((n : Int) - 1)).toNat < o.length) = True := eq_true (by rw [hw]; have := H2.out; omega)
        have HW1 := Aside0.mk hw
        have HOL := Aside0.mk hol
        clear hw hol
        gi_wp2
        refine wpIn_wide.2 ?_
        go_quiet ((go_at_call 62; (with_reducible refine (mf_behind.calls (rd o (wrap64 ((n : Int) - 1))) (l0.length : Int) _).mono ?_); rintro e w' ⟨rfl, ⟨nd3, rfl⟩⟩; (try first | exact ⟨rfl, _, World.drewN_drewN _ _ _⟩ | exact ⟨rfl, _, Eq.trans (World.drewN_drewN _ _ _) (congrArg (World.drewN _) (Nat.add_assoc _ _ _))⟩)))
        have hrow' : (W.drewN nq).ownsRow W0.heap.size 3 1 (.slice (some ad') o.length cc) o.length (nums .i64 o) := hrow
        have hK' : (W.drewN nq).heap[D]? = some (.deferred (some [])) := hK
        have hB' := pw_below_drewN hB nq
        gi_wp2
        refine ⟨by simp, .inl ⟨_, _, rfl, run_takeDeferred hK', ?_⟩⟩
        exact ⟨_, results_tmp3 rfl _ _ _, _, o, _, 0, rfl, ownsRow_putObj (own_weaken hrow' (by omega)) _ hK' rfl, hB'.trans (belowK_b (w := w) (Nat.le_refl _) _ D _ _ HD.out hK' rfl rfl), by unfold mf_res; rw [← HO.out, if_neg (by have := H1.out; omega), if_pos (by have := H2.out; omega)]⟩
      · have d2 : decide ((n : Int) > 0) = false := decide_eq_false (by omega)
        have d2' : decide (0 < n) = false := decide_eq_false h2
        have H2 := Aside0.mk h2
        clear h2
        gi_wp2
        refine ⟨by simp, .inl ⟨_, _, rfl, run_takeDeferred hK, ?_⟩⟩
        exact ⟨_, results_tmp3 rfl _ _ _, _, o, _, 0, rfl, ownsRow_putObj (own_weaken hrow (by omega)) _ hK rfl, hB.trans (belowK_b (w := w) (Nat.le_refl _) W D _ _ HD.out hK rfl rfl), by unfold mf_res; rw [← HO.out, if_neg (by have := H1.out; omega), if_neg (by have := H2.out; omega)]⟩
  case stop =>
    rintro D cd pre W hD hpre ⟨⟨rfl, hlen⟩, ⟨v, hv, hrow, hle⟩, ⟨hB, hWS⟩, hbw, hbn⟩ hK
    have hout : mf_fr l0 (pre.dropLast.map Fin.val) = mf_out l0 (c : Int) (n : Int) := by
      unfold mf_out
      rw [Int.toNat_natCast, Int.toNat_natCast]
      exact mf_take (List.IsPrefix.trans (List.dropLast_prefix pre |>.map _) hpre) hlen
    obtain ⟨o, ho⟩ : ∃ o, o = mf_fr l0 (pre.dropLast.map Fin.val) := ⟨_, rfl⟩
    rw [← ho] at hrow hle hout
    clear ho
    obtain ⟨A, cc, rfl, hreads⟩ := own_reads hrow
    have hc := hv.cell
    have hcw := hbw.cell
    have hcn := hbn.cell
    have HRD := Aside0.mk hreads
    have HLE := Aside0.mk hle
    have HO := Aside0.mk hout
    have HD := Aside0.mk (show w.heap.size ≤ D by omega)
    clear hreads hle hout
    by_cases h1 : o.length < n
    · have d1 : decide ((o.length : Int) < (n : Int)) = true := decide_eq_true (by omega)
      have d1' : decide (o.length < n) = true := decide_eq_true h1
      have H1 := Aside0.mk h1
      clear h1
      gi_wp2
      refine ⟨by simp, .inl ⟨_, _, rfl, run_takeDeferred hK, ?_⟩⟩
      exact ⟨_, results_tmp3 rfl _ _ _, _, [], 0, 9, rfl, own_nil _ _ _ _, hB.trans (belowK_b (w := w) (Nat.le_refl _) W D _ _ HD.out hK rfl rfl), by unfold mf_res; rw [← HO.out, if_pos (by have := H1.out; omega)]⟩
    · have d1 : decide ((o.length : Int) < (n : Int)) = false := decide_eq_false (by omega)
      have d1' : decide (o.length < n) = false := decide_eq_false h1
      have H1 := Aside0.mk h1
      clear h1
      by_cases h2 : 0 < n
      · have d2 : decide ((n : Int) > 0) = true := decide_eq_true (by omega)
        have d2' : decide (0 < n) = true := decide_eq_true h2
        have H2 := Aside0.mk h2
        clear h2
        have hol : o.length = n := by have := H1.out; have := HLE.out; omega
        have hw : wrap64 ((n : Int) - 1) = (n : Int) - 1 := by have h1_ := mf_out_le l0 c (n : Int) HC2.out HCM.out; have h2_ := HL.out; have h3_ := H2.out; rw [← HO.out, hol] at h1_; unfold wrap64; omega
        obtain ⟨ad', rfl, hcell⟩ := ReadsInt.at_ HRD.out (wrap64 ((n : Int) - 1)) (by rw [hw]; have := H2.out; omega) (by rw [hw]; omega)
        have hq1 : (0 ≤ wrap64 ((n : Int) - 1)) = True := eq_true (by rw [hw]; have := H2.out; omega)
        have hq2 : (wrap64 ((n : Int) - 1) < (o.length : Int)) = True := eq_true (by rw [hw]; omega)
        have hq3 : ((wrap64 ((n : Int) - 1)).toNat < o.length) = True := eq_true (by rw [hw]; have := H2.out; omega)
        have HW1 := Aside0.mk hw
        have HOL := Aside0.mk hol
        clear hw hol
        gi_wp2
        refine wpIn_wide.2 ?_
        go_quiet ((go_at_call 62; (with_reducible refine (mf_behind.calls (rd o (wrap64 ((n : Int) - 1))) (l0.length : Int) _).mono ?_); rintro e w' ⟨rfl, ⟨nd3, rfl⟩⟩; (try first | exact ⟨rfl, _, World.drewN_drewN _ _ _⟩ | exact ⟨rfl, _, Eq.trans (World.drewN_drewN _ _ _) (congrArg (World.drewN _) (Nat.add_assoc _ _ _))⟩)))
        have hrow' : (W.drewN nq).ownsRow W0.heap.size 3 1 (.slice (some ad') o.length cc) o.length (nums .i64 o) := hrow
        have hK' : (W.drewN nq).heap[D]? = some (.deferred (some [])) := hK
        have hB' := pw_below_drewN hB nq
        gi_wp2
        refine ⟨by simp, .inl ⟨_, _, rfl, run_takeDeferred hK', ?_⟩⟩
        exact ⟨_, results_tmp3 rfl _ _ _, _, o, _, 0, rfl, ownsRow_putObj (own_weaken hrow' (by omega)) _ hK' rfl, hB'.trans (belowK_b (w := w) (Nat.le_refl _) _ D _ _ HD.out hK' rfl rfl), by unfold mf_res; rw [← HO.out, if_neg (by have := H1.out; omega), if_pos (by have := H2.out; omega)]⟩
      · have d2 : decide ((n : Int) > 0) = false := decide_eq_false (by omega)
        have d2' : decide (0 < n) = false := decide_eq_false h2
        have H2 := Aside0.mk h2
        clear h2
        gi_wp2
        refine ⟨by simp, .inl ⟨_, _, rfl, run_takeDeferred hK, ?_⟩⟩
        exact ⟨_, results_tmp3 rfl _ _ _, _, o, _, 0, rfl, ownsRow_putObj (own_weaken hrow (by omega)) _ hK rfl, hB.trans (belowK_b (w := w) (Nat.le_refl _) W D _ _ HD.out hK rfl rfl), by unfold mf_res; rw [← HO.out, if_neg (by have := H1.out; omega), if_neg (by have := H2.out; omega)]⟩
theorem impl_MapFree.calls (A0 : Option Addr) (c0 : Nat) (l0 : List Int) (a1 : Int) (a2 : Int) (r1 : List Int) (r2 : Int) (r3 : Int) (w : World) (hr0 : Kd.C (Kd.int .i64) w A0 l0.length l0) (hc0 : l0.length ≤ c0) (h : impl_MapFree.f l0 a1 a2 = some (r1, r2, r3)) :
    Calls Try.prog 45 #[.slice A0 l0.length c0, .int .i64 a1, .int .i64 a2] w fun e w' => ∃ v0_ : Value, e = .returned (.tuple #[v0_, .int .i64 r2, .int .i64 r3]) ∧ Kd.R (Kd.int .i64) 3 w' w.heap.size (fun _ => True) v0_ r1 ∧ Below w.heap.size w w' := by
  obtain ⟨t, ht, h⟩ := Option.bind_eq_some_iff.mp h
  by_cases hb : t = true ∧ 2 ≤ a1 ∧ a1 ≤ wrap64 ((l0.length : Int) - 1) ∧ 0 ≤ a2
  · rw [if_pos hb] at h
    obtain ⟨rfl, h2, h3, h4⟩ := hb
    have hlen : 64 ≤ l0.length ∧ l0.length ≤ 2048 := by
      have := of_decide_eq_true (Option.some.inj ht)
      exact ⟨this.1, this.2.1⟩
    rw [show wrap64 ((l0.length : Int) - 1) = (l0.length : Int) - 1 by unfold wrap64; omega] at h3
    obtain ⟨c, rfl⟩ := Int.eq_ofNat_of_zero_le (show 0 ≤ a1 by omega)
    obtain ⟨n, rfl⟩ := Int.eq_ofNat_of_zero_le h4
    refine callsIn_wide.1 ((impl_MapFree.main A0 c0 l0 c n w hr0 hc0 ht hlen.2 (by omega) (by omega)).mono ?_)
    rintro e w' ⟨v0, q1, q2, q3, rfl, ho, hB, hres⟩
    have hq := hres.symm.trans (Option.some.inj h)
    obtain ⟨e1_, hq⟩ := Prod.mk.inj hq
    obtain ⟨e2_, e3_⟩ := Prod.mk.inj hq
    rw [e1_] at ho
    rw [e2_, e3_]
    exact ⟨v0, rfl, Kd.R_of_own ho (fun _ _ => trivial), hB⟩
  · rw [if_neg hb] at h
    refine callsIn_wide.1 ((impl_MapFree.early A0 c0 l0 a1 a2 t w hr0 hc0 ht hb).mono ?_)
    rintro e w' ⟨rfl, hB⟩
    obtain ⟨e1_, hq⟩ := Prod.mk.inj (Option.some.inj h)
    obtain ⟨e2_, e3_⟩ := Prod.mk.inj hq
    rw [← e1_, ← e2_, ← e3_]
    exact ⟨_, rfl, Kd.R_nil _ _ _ _ _, hB⟩
end

end Go.Proofs.Ytjhaofdnlnbajaa.PFnFree
