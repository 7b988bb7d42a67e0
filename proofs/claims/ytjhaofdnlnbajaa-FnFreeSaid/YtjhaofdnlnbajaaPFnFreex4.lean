-- Written by a program of this session (patch_print.py over the kit print)
import Derived.Test.YtjhaofdnlnbajaaPFnFreex0
import Derived.Test.YtjhaofdnlnbajaaPFnFreex3
namespace Go.Proofs.Ytjhaofdnlnbajaa.PFnFree
open Go.RowKit Go.Proofs.YtjhaofdnlnbajaaW.PrintWords Go.Proofs.YtjhaofdnlnbajaaW.PrintLast Go.Proofs.YtjhaofdnlnbajaaW.PrintMore
attribute [local go_sem] max2_int min2_int max_two min_two max_three min_three max_four min_four   -- for this text's walks alone
set_option linter.unusedVariables false
set_option linter.unusedSimpArgs false

open Go.Proofs.YtjhaofdnlnbajaaW Go.Proofs.YtjhaofdnlnbajaaW.PrintHand Go.Proofs.YtjhaofdnlnbajaaW.PrintHx
/-! ### impl_MapCount: function 40 -/
def impl_MapCount.i : Nat → Int → List Int → Nat → Option (List Int)
  | 0, _, _, _ => none
  | k + 1, x, L, p => if p < 32 then ((impl_MapCount.i k x (L.set (3 + p) (wrap64 (L.getD (3 + p) 0 + (Go.bits .and .i64 (shr .i64 x (p : Int)) 1)))) (p + 1))) else (some L)
def impl_MapCount.o : Nat → List Int → List Int → Nat → Option (List Int)
  | 0, _, _, _ => none
  | k + 1, l, L, j => if j < l.length then ((impl_MapCount.i k (rd l (j : Int)) (if rd l (j : Int) = 0 then L.set 1 (wrap64 (L.getD 1 0 + 1)) else L.set 2 (wrap64 (L.getD 2 0 + 1))) 0).bind fun L2 => (impl_MapCount.o k l L2 (j + 1))) else (some L)
def impl_MapCount.f (k : Nat) (l0 : List Int) : Option (List Int × Int) := (impl_mapRight.f l0).bind fun t => (if t = true then ((impl_MapCount.o k l0 ((l0.length : Int) :: List.replicate 34 0) 0).bind fun L => (some (L, 0))) else (some (List.replicate 35 0, 7)))
theorem impl_MapCount.mono_i : ∀ k x L p, LeO (impl_MapCount.i k x L p) (impl_MapCount.i (k + 1) x L p)
  | 0, _, _, _ => LeO.none _
  | k + 1, x, L, p => by
    have ih := impl_MapCount.mono_i k
    unfold impl_MapCount.i
    repeat' first
      | exact ih _ _ _
      | exact LeO.refl _
      | refine LeO.ite ?_ ?_
      | refine LeO.bind ?_ (fun _ => ?_)
theorem impl_MapCount.mono_l : ∀ k l L j, LeO (impl_MapCount.o k l L j) (impl_MapCount.o (k + 1) l L j)
  | 0, _, _, _ => LeO.none _
  | k + 1, l, L, j => by
    have ih := impl_MapCount.mono_l k
    unfold impl_MapCount.o
    repeat' first
      | exact ih _ _ _
      | exact impl_MapCount.mono_i _ _ _ _
      | exact LeO.refl _
      | refine LeO.ite ?_ ?_
      | refine LeO.bind ?_ (fun _ => ?_)
theorem impl_MapCount.mono : ∀ a0 k, LeO (impl_MapCount.f k a0) (impl_MapCount.f (k + 1) a0) := by
  intro a0 k
  unfold impl_MapCount.f
  repeat' first
      | exact impl_MapCount.mono_l _ _ _ _
      | exact LeO.refl _
      | refine LeO.ite ?_ ?_
      | refine LeO.bind ?_ (fun _ => ?_)
set_option maxHeartbeats 8000000 in
set_option maxRecDepth 100000 in
theorem impl_MapCount.calls (k : Nat) (A0 : Option Addr) (c0 : Nat) (l0 : List Int) (r1 : List Int) (r2 : Int) (w : World) (hr0 : Kd.C (Kd.int .i64) w A0 l0.length l0) (hc0 : l0.length ≤ c0) (h : impl_MapCount.f k l0 = some (r1, r2)) :
    Calls Try.prog 40 #[.slice A0 l0.length c0] w fun e w' => e = .returned (.tuple #[.agg (nums .i64 r1).toArray, .int .i64 r2]) ∧ Below w.heap.size w w' := by
  have HR0 := Aside0.mk hr0
  have HC0 := Aside0.mk hc0
  clear hr0 hc0
  have hu55 := Try.underlying55
  unfold impl_MapCount.f at h
  obtain ⟨t, ht, h⟩ := Option.bind_eq_some_iff.mp h
  have HT := Aside0.mk ht
  clear ht
  cases t with
  | false =>
    rw [if_neg (by decide)] at h
    simp only [Option.some.injEq, Prod.mk.injEq] at h
    obtain ⟨rfl, rfl⟩ := h
    have H0 : Aside0 ((w.alloc (.cells #[.int .i64 0, .int .i64 0, .int .i64 0, .int .i64 0, .int .i64 0, .int .i64 0, .int .i64 0, .int .i64 0, .int .i64 0, .int .i64 0, .int .i64 0, .int .i64 0, .int .i64 0, .int .i64 0, .int .i64 0, .int .i64 0, .int .i64 0, .int .i64 0, .int .i64 0, .int .i64 0, .int .i64 0, .int .i64 0, .int .i64 0, .int .i64 0, .int .i64 0, .int .i64 0, .int .i64 0, .int .i64 0, .int .i64 0, .int .i64 0, .int .i64 0, .int .i64 0, .int .i64 0, .int .i64 0, .int .i64 0] 55)).heap[w.heap.size]? = some (.cells #[.int .i64 0, .int .i64 0, .int .i64 0, .int .i64 0, .int .i64 0, .int .i64 0, .int .i64 0, .int .i64 0, .int .i64 0, .int .i64 0, .int .i64 0, .int .i64 0, .int .i64 0, .int .i64 0, .int .i64 0, .int .i64 0, .int .i64 0, .int .i64 0, .int .i64 0, .int .i64 0, .int .i64 0, .int .i64 0, .int .i64 0, .int .i64 0, .int .i64 0, .int .i64 0, .int .i64 0, .int .i64 0, .int .i64 0, .int .i64 0, .int .i64 0, .int .i64 0, .int .i64 0, .int .i64 0, .int .i64 0] 55 (0, 0))) := ⟨blk_new _ _⟩
    go_enter Try.func40, Try.ntmps40
    go_wp2_with (first | (go_at_call 55; refine (impl_mapRight.calls _ _ l0 false _ (by repeat (first | exact HR0.out | (with_reducible refine Kd.C_alloc ?_ _) | (with_reducible refine Kd.C_drewN ?_ _) | (with_reducible refine Kd.C_drew ?_))) HC0.out HT.out).mono ?_; rintro e_ w_ ⟨rfl, ⟨nd, rfl⟩⟩) | (refine wpList_build rfl 55 #[] rfl (by kernel_rfl) ?_) | (refine wpList_store_row rfl 55 (.tmp 2) (.tmp 11) rfl w.heap.size #[.int .i64 0, .int .i64 0, .int .i64 0, .int .i64 0, .int .i64 0, .int .i64 0, .int .i64 0, .int .i64 0, .int .i64 0, .int .i64 0, .int .i64 0, .int .i64 0, .int .i64 0, .int .i64 0, .int .i64 0, .int .i64 0, .int .i64 0, .int .i64 0, .int .i64 0, .int .i64 0, .int .i64 0, .int .i64 0, .int .i64 0, .int .i64 0, .int .i64 0, .int .i64 0, .int .i64 0, .int .i64 0, .int .i64 0, .int .i64 0, .int .i64 0, .int .i64 0, .int .i64 0, .int .i64 0, .int .i64 0] rfl (by kernel_rfl) 55 #[.int .i64 0, .int .i64 0, .int .i64 0, .int .i64 0, .int .i64 0, .int .i64 0, .int .i64 0, .int .i64 0, .int .i64 0, .int .i64 0, .int .i64 0, .int .i64 0, .int .i64 0, .int .i64 0, .int .i64 0, .int .i64 0, .int .i64 0, .int .i64 0, .int .i64 0, .int .i64 0, .int .i64 0, .int .i64 0, .int .i64 0, .int .i64 0, .int .i64 0, .int .i64 0, .int .i64 0, .int .i64 0, .int .i64 0, .int .i64 0, .int .i64 0, .int .i64 0, .int .i64 0, .int .i64 0, .int .i64 0] (blk_drewN H0.out _) (by kernel_rfl) rfl (by simp [Value.oneCell']) ?_))
    refine bodyPost_ret (results_ct rfl _ _ w.heap.size 55 #[.int .i64 0, .int .i64 0, .int .i64 0, .int .i64 0, .int .i64 0, .int .i64 0, .int .i64 0, .int .i64 0, .int .i64 0, .int .i64 0, .int .i64 0, .int .i64 0, .int .i64 0, .int .i64 0, .int .i64 0, .int .i64 0, .int .i64 0, .int .i64 0, .int .i64 0, .int .i64 0, .int .i64 0, .int .i64 0, .int .i64 0, .int .i64 0, .int .i64 0, .int .i64 0, .int .i64 0, .int .i64 0, .int .i64 0, .int .i64 0, .int .i64 0, .int .i64 0, .int .i64 0, .int .i64 0, .int .i64 0] (0, 0) _ rfl (setRow_same (blk_drewN H0.out _)) Try.underlying55 rfl (by kernel_rfl)) rfl ⟨rfl, ?_⟩
    exact setRow_below (pw_below_drewN ((Below.refl _ _).alloc (Nat.le_refl _) _) _) (Nat.le_refl _) _
  | true =>
    rw [if_pos rfl] at h
    obtain ⟨LR, hLR, h⟩ := Option.bind_eq_some_iff.mp h
    have HLR := Aside0.mk hLR
    have HLEN := Aside0.mk (show l0.length ≤ 9223372036854775807 from HR0.out.2.1)
    have HEND := Aside0.mk h
    clear hLR h
    have H0 : Aside0 ((w.alloc (.cells #[.int .i64 0, .int .i64 0, .int .i64 0, .int .i64 0, .int .i64 0, .int .i64 0, .int .i64 0, .int .i64 0, .int .i64 0, .int .i64 0, .int .i64 0, .int .i64 0, .int .i64 0, .int .i64 0, .int .i64 0, .int .i64 0, .int .i64 0, .int .i64 0, .int .i64 0, .int .i64 0, .int .i64 0, .int .i64 0, .int .i64 0, .int .i64 0, .int .i64 0, .int .i64 0, .int .i64 0, .int .i64 0, .int .i64 0, .int .i64 0, .int .i64 0, .int .i64 0, .int .i64 0, .int .i64 0, .int .i64 0] 55)).heap[w.heap.size]? = some (.cells #[.int .i64 0, .int .i64 0, .int .i64 0, .int .i64 0, .int .i64 0, .int .i64 0, .int .i64 0, .int .i64 0, .int .i64 0, .int .i64 0, .int .i64 0, .int .i64 0, .int .i64 0, .int .i64 0, .int .i64 0, .int .i64 0, .int .i64 0, .int .i64 0, .int .i64 0, .int .i64 0, .int .i64 0, .int .i64 0, .int .i64 0, .int .i64 0, .int .i64 0, .int .i64 0, .int .i64 0, .int .i64 0, .int .i64 0, .int .i64 0, .int .i64 0, .int .i64 0, .int .i64 0, .int .i64 0, .int .i64 0] 55 (0, 0))) := ⟨blk_new _ _⟩
    have H1 : ∀ nd, Aside0 ((((w.alloc (.cells #[.int .i64 0, .int .i64 0, .int .i64 0, .int .i64 0, .int .i64 0, .int .i64 0, .int .i64 0, .int .i64 0, .int .i64 0, .int .i64 0, .int .i64 0, .int .i64 0, .int .i64 0, .int .i64 0, .int .i64 0, .int .i64 0, .int .i64 0, .int .i64 0, .int .i64 0, .int .i64 0, .int .i64 0, .int .i64 0, .int .i64 0, .int .i64 0, .int .i64 0, .int .i64 0, .int .i64 0, .int .i64 0, .int .i64 0, .int .i64 0, .int .i64 0, .int .i64 0, .int .i64 0, .int .i64 0, .int .i64 0] 55)).drewN nd).alloc (.cells #[.int .i64 0, .int .i64 0, .int .i64 0, .int .i64 0, .int .i64 0, .int .i64 0, .int .i64 0, .int .i64 0, .int .i64 0, .int .i64 0, .int .i64 0, .int .i64 0, .int .i64 0, .int .i64 0, .int .i64 0, .int .i64 0, .int .i64 0, .int .i64 0, .int .i64 0, .int .i64 0, .int .i64 0, .int .i64 0, .int .i64 0, .int .i64 0, .int .i64 0, .int .i64 0, .int .i64 0, .int .i64 0, .int .i64 0, .int .i64 0, .int .i64 0, .int .i64 0, .int .i64 0, .int .i64 0, .int .i64 0] 55)).heap[w.heap.size + 1]? = some (.cells #[.int .i64 0, .int .i64 0, .int .i64 0, .int .i64 0, .int .i64 0, .int .i64 0, .int .i64 0, .int .i64 0, .int .i64 0, .int .i64 0, .int .i64 0, .int .i64 0, .int .i64 0, .int .i64 0, .int .i64 0, .int .i64 0, .int .i64 0, .int .i64 0, .int .i64 0, .int .i64 0, .int .i64 0, .int .i64 0, .int .i64 0, .int .i64 0, .int .i64 0, .int .i64 0, .int .i64 0, .int .i64 0, .int .i64 0, .int .i64 0, .int .i64 0, .int .i64 0, .int .i64 0, .int .i64 0, .int .i64 0] 55 (0, 0))) := fun nd => ⟨by
      have h_ := blk_new ((w.alloc (.cells #[.int .i64 0, .int .i64 0, .int .i64 0, .int .i64 0, .int .i64 0, .int .i64 0, .int .i64 0, .int .i64 0, .int .i64 0, .int .i64 0, .int .i64 0, .int .i64 0, .int .i64 0, .int .i64 0, .int .i64 0, .int .i64 0, .int .i64 0, .int .i64 0, .int .i64 0, .int .i64 0, .int .i64 0, .int .i64 0, .int .i64 0, .int .i64 0, .int .i64 0, .int .i64 0, .int .i64 0, .int .i64 0, .int .i64 0, .int .i64 0, .int .i64 0, .int .i64 0, .int .i64 0, .int .i64 0, .int .i64 0] 55)).drewN nd) (.cells #[.int .i64 0, .int .i64 0, .int .i64 0, .int .i64 0, .int .i64 0, .int .i64 0, .int .i64 0, .int .i64 0, .int .i64 0, .int .i64 0, .int .i64 0, .int .i64 0, .int .i64 0, .int .i64 0, .int .i64 0, .int .i64 0, .int .i64 0, .int .i64 0, .int .i64 0, .int .i64 0, .int .i64 0, .int .i64 0, .int .i64 0, .int .i64 0, .int .i64 0, .int .i64 0, .int .i64 0, .int .i64 0, .int .i64 0, .int .i64 0, .int .i64 0, .int .i64 0, .int .i64 0, .int .i64 0, .int .i64 0] 55)
      rw [show ((w.alloc (.cells #[.int .i64 0, .int .i64 0, .int .i64 0, .int .i64 0, .int .i64 0, .int .i64 0, .int .i64 0, .int .i64 0, .int .i64 0, .int .i64 0, .int .i64 0, .int .i64 0, .int .i64 0, .int .i64 0, .int .i64 0, .int .i64 0, .int .i64 0, .int .i64 0, .int .i64 0, .int .i64 0, .int .i64 0, .int .i64 0, .int .i64 0, .int .i64 0, .int .i64 0, .int .i64 0, .int .i64 0, .int .i64 0, .int .i64 0, .int .i64 0, .int .i64 0, .int .i64 0, .int .i64 0, .int .i64 0, .int .i64 0] 55)).drewN nd).heap.size = w.heap.size + 1 from World.size_alloc _ _] at h_
      exact h_⟩
    go_enter Try.func40, Try.ntmps40
    go_wp2_with (first | (go_at_call 55; refine (impl_mapRight.calls _ _ l0 true _ (by repeat (first | exact HR0.out | (with_reducible refine Kd.C_alloc ?_ _) | (with_reducible refine Kd.C_drewN ?_ _) | (with_reducible refine Kd.C_drew ?_))) HC0.out HT.out).mono ?_; rintro e_ w_ ⟨rfl, ⟨nd, rfl⟩⟩) | (refine wpList_build rfl 55 #[(0, .tmp 13)] rfl (by kernel_rfl) ?_) | (refine wpList_store_row rfl 55 (.tmp 4) (.tmp 14) rfl (w.heap.size + 1) #[.int .i64 (l0.length : Int), .int .i64 0, .int .i64 0, .int .i64 0, .int .i64 0, .int .i64 0, .int .i64 0, .int .i64 0, .int .i64 0, .int .i64 0, .int .i64 0, .int .i64 0, .int .i64 0, .int .i64 0, .int .i64 0, .int .i64 0, .int .i64 0, .int .i64 0, .int .i64 0, .int .i64 0, .int .i64 0, .int .i64 0, .int .i64 0, .int .i64 0, .int .i64 0, .int .i64 0, .int .i64 0, .int .i64 0, .int .i64 0, .int .i64 0, .int .i64 0, .int .i64 0, .int .i64 0, .int .i64 0, .int .i64 0] rfl (by kernel_rfl) 55 #[.int .i64 0, .int .i64 0, .int .i64 0, .int .i64 0, .int .i64 0, .int .i64 0, .int .i64 0, .int .i64 0, .int .i64 0, .int .i64 0, .int .i64 0, .int .i64 0, .int .i64 0, .int .i64 0, .int .i64 0, .int .i64 0, .int .i64 0, .int .i64 0, .int .i64 0, .int .i64 0, .int .i64 0, .int .i64 0, .int .i64 0, .int .i64 0, .int .i64 0, .int .i64 0, .int .i64 0, .int .i64 0, .int .i64 0, .int .i64 0, .int .i64 0, .int .i64 0, .int .i64 0, .int .i64 0, .int .i64 0] (H1 _).out (by kernel_rfl) rfl (by simp [Value.oneCell']) ?_))
    (try simp only [Act.put, List.setIfInBounds_toArray, List.set_cons_succ, List.set_cons_zero])
    go_loopg [17] k (fun kq v17 wr => ∃ (j : Nat) (L : List Int), v17 = .int .i64 (j : Int) ∧ Aside0 (j ≤ l0.length) ∧ Aside0 (L.length = 35) ∧ Aside0 (impl_MapCount.o kq l0 L j = some LR) ∧ Aside0 (kq ≤ k) ∧ Aside0 (Below w.heap.size w wr) ∧ Aside0 (wr.heap[w.heap.size]? = some (.cells #[.int .i64 0, .int .i64 0, .int .i64 0, .int .i64 0, .int .i64 0, .int .i64 0, .int .i64 0, .int .i64 0, .int .i64 0, .int .i64 0, .int .i64 0, .int .i64 0, .int .i64 0, .int .i64 0, .int .i64 0, .int .i64 0, .int .i64 0, .int .i64 0, .int .i64 0, .int .i64 0, .int .i64 0, .int .i64 0, .int .i64 0, .int .i64 0, .int .i64 0, .int .i64 0, .int .i64 0, .int .i64 0, .int .i64 0, .int .i64 0, .int .i64 0, .int .i64 0, .int .i64 0, .int .i64 0, .int .i64 0] 55 (0, 0))) ∧ Aside0 (wr.heap[w.heap.size + 1]? = some (.cells (nums .i64 L).toArray 55 (0, 0))))
    case atStart =>
      refine ⟨0, (l0.length : Int) :: List.replicate 34 0, rfl, ⟨Nat.zero_le _⟩, ⟨by simp⟩, HLR, ⟨Nat.le_refl _⟩, ⟨?_⟩, ⟨?_⟩, ⟨?_⟩⟩
      · exact setRow_below ((pw_below_drewN ((Below.refl _ _).alloc (Nat.le_refl _) _) _).alloc (by show _ ≤ (w.alloc _).heap.size; rw [World.size_alloc]; omega) _) (by omega) _
      · exact (PrintHand.setRow_other (by omega)).trans (blk_alloc (blk_drewN H0.out _) _)
      · exact setRow_same (H1 _).out
    case round =>
      clear HLR H0 H1
      obtain ⟨j, L, rfl, hj, hLl, HA, HK, HB, HZ, HL⟩ := hrel
      cases gk with
      | zero => exact absurd HA.out (by simp [impl_MapCount.o])
      | succ ko =>
        have H := HA.out
        clear HA
        unfold impl_MapCount.o at H
        by_cases c9 : j < l0.length
        · rw [if_pos c9] at H
          obtain ⟨L2, hI, H⟩ := Option.bind_eq_some_iff.mp H
          have HO := Aside0.mk H
          clear H
          have c9b0 : decide ((j : Int) < (l0.length : Int)) = true := decide_eq_true (by omega)
          have c9b1 : decide (j < l0.length) = true := decide_eq_true c9
          have C9 := Aside0.mk c9
          clear c9
          have p112 : 0 ≤ (j : Int) := by omega
          have q112 : (j : Int) < (l0.length : Int) := by have := C9.out; omega
          obtain ⟨ad112, e112, hx112_0⟩ := Kd.at_int (Kd.C_below HR0.out HB.out) (j : Int) p112 q112
          cases e112
          rw [Int.toNat_natCast] at hx112_0
          replace p112 := eq_true p112
          replace q112 := eq_true q112
          obtain ⟨x, hx⟩ : ∃ x, x = rd l0 (j : Int) := ⟨_, rfl⟩
          rw [← hx] at hx112_0 hI
          have HI := Aside0.mk hI
          clear hI hx
          by_cases c10 : x = 0
          · have c10b0 : (x == 0) = true := beq_iff_eq.mpr c10
            have c10h : (if x = 0 then L.set 1 (wrap64 (L.getD 1 0 + 1)) else L.set 2 (wrap64 (L.getD 2 0 + 1))) = L.set 1 (wrap64 (L.getD 1 0 + 1)) := if_pos c10
            clear c10
            have H2 : impl_MapCount.i ko x (L.set 1 (wrap64 (L.getD 1 0 + 1))) 0 = some L2 := by have h_ := HI.out; rw [c10h] at h_; exact h_
            have HI2 := Aside0.mk H2
            clear H2 HI c10h
            have c1 := row_cell HL.out 1 (by have := hLl.out; omega)
            have f1 := row_frozen HL.out 1
            go_wp2
            go_loopg [31] ko (fun kq v7 wi => ∃ (p : Nat) (M : List Int), v7 = .int .i64 (p : Int) ∧ Aside0 (p ≤ 32) ∧ Aside0 (M.length = 35) ∧ Aside0 (impl_MapCount.i kq x M p = some L2) ∧ Aside0 (kq ≤ ko) ∧ Aside0 (Below w.heap.size w wi) ∧ Aside0 (wi.heap[w.heap.size]? = some (.cells #[.int .i64 0, .int .i64 0, .int .i64 0, .int .i64 0, .int .i64 0, .int .i64 0, .int .i64 0, .int .i64 0, .int .i64 0, .int .i64 0, .int .i64 0, .int .i64 0, .int .i64 0, .int .i64 0, .int .i64 0, .int .i64 0, .int .i64 0, .int .i64 0, .int .i64 0, .int .i64 0, .int .i64 0, .int .i64 0, .int .i64 0, .int .i64 0, .int .i64 0, .int .i64 0, .int .i64 0, .int .i64 0, .int .i64 0, .int .i64 0, .int .i64 0, .int .i64 0, .int .i64 0, .int .i64 0, .int .i64 0] 55 (0, 0))) ∧ Aside0 (wi.heap[w.heap.size + 1]? = some (.cells (nums .i64 M).toArray 55 (0, 0))))
            case atStart =>
              refine ⟨0, _, rfl, ⟨Nat.zero_le _⟩, ⟨?_⟩, HI2, ⟨Nat.le_refl _⟩, ⟨HB.out.setCell (show w.heap.size ≤ w.heap.size + 1 by omega) _⟩, ⟨row_other HZ.out (by omega) _ _⟩, ⟨row_set HL.out 1 _⟩⟩
              have := hLl.out
              simpa using this
            case round =>
              clear HI2 c1 f1 hx112_0 HB HZ HL hLl
              obtain ⟨p, M, rfl, hp, hM, HA, HK2, HB, HZ, HL⟩ := hrel
              cases gk with
              | zero => exact absurd HA.out (by simp [impl_MapCount.i])
              | succ ki =>
                have H := HA.out
                clear HA
                unfold impl_MapCount.i at H
                by_cases cp : p < 32
                · rw [if_pos cp] at H
                  obtain ⟨b, hb⟩ : ∃ b, b = Go.bits .and .i64 (shr .i64 x (p : Int)) 1 := ⟨_, rfl⟩
                  rw [← hb] at H
                  have HBV := Aside0.mk hb
                  clear hb
                  have HN := Aside0.mk H
                  clear H
                  have cpb0 : decide ((p : Int) < 32) = true := decide_eq_true (by omega)
                  have cpb1 : ((p : Int) < 32) = True := eq_true (by omega)
                  have cpb2 : (p < 32) = True := eq_true cp
                  have cpb3 : (0 ≤ (p : Int)) = True := eq_true (by omega)
                  have CP := Aside0.mk cp
                  clear cp
                  have cL := row_cell HL.out (3 + p) (by have := hM.out; have := CP.out; omega)
                  have fL := row_frozen HL.out (3 + p)
                  go_wp2
                  refine PrintQTail.wp_region_quiet_tail 11 (by kernel_rfl) (by kernel_rfl) ?_
                  simp only [List.take_succ_cons, List.take_zero, List.drop_succ_cons, List.drop_zero]
                  repeat (quiet_step (fail))
                  refine wpQuiet_nil ?_
                  intro w_ hw_
                  obtain ⟨nq, rfl⟩ := hw_
                  go_wp2
                  go_roundg ki
                  case measure => have := HK2.out; have := HK.out; omega
                  case rel =>
                    refine ⟨p + 1, _, by rw [show wrap64 ((p : Int) + 1) = ((p + 1 : Nat) : Int) by (have := CP.out; unfold wrap64; omega)], ⟨by have := CP.out; omega⟩, ⟨?_⟩, HN, ⟨by have := HK2.out; omega⟩, ⟨?_⟩, ⟨?_⟩, ⟨?_⟩⟩
                    · have := hM.out
                      simpa using this
                    · exact (pw_below_drewN HB.out _).setCell (show w.heap.size ≤ w.heap.size + 1 by omega) _
                    · exact row_other (blk_drewN HZ.out _) (by omega) _ _
                    · rw [HBV.out]
                      exact row_set (blk_drewN HL.out _) (3 + p) _
                · rw [if_neg cp] at H
                  obtain rfl := Option.some.inj H
                  have cpb0 : decide ((p : Int) < 32) = false := decide_eq_false (by omega)
                  clear cp H
                  go_wp2
                  go_roundg ko
                  case measure => have := HK.out; omega
                  case rel =>
                    exact ⟨j + 1, M, by rw [show wrap64 ((j : Int) + 1) = ((j + 1 : Nat) : Int) by (have := C9.out; have := HLEN.out; unfold wrap64; omega)], ⟨by have := C9.out; omega⟩, hM, HO, ⟨by have := HK.out; omega⟩, HB, HZ, HL⟩
          · have c10b0 : (x == 0) = false := beq_eq_false_iff_ne.mpr c10
            have c10h : (if x = 0 then L.set 1 (wrap64 (L.getD 1 0 + 1)) else L.set 2 (wrap64 (L.getD 2 0 + 1))) = L.set 2 (wrap64 (L.getD 2 0 + 1)) := if_neg c10
            clear c10
            have H2 : impl_MapCount.i ko x (L.set 2 (wrap64 (L.getD 2 0 + 1))) 0 = some L2 := by have h_ := HI.out; rw [c10h] at h_; exact h_
            have HI2 := Aside0.mk H2
            clear H2 HI c10h
            have c1 := row_cell HL.out 2 (by have := hLl.out; omega)
            have f1 := row_frozen HL.out 2
            go_wp2
            go_loopg [31] ko (fun kq v7 wi => ∃ (p : Nat) (M : List Int), v7 = .int .i64 (p : Int) ∧ Aside0 (p ≤ 32) ∧ Aside0 (M.length = 35) ∧ Aside0 (impl_MapCount.i kq x M p = some L2) ∧ Aside0 (kq ≤ ko) ∧ Aside0 (Below w.heap.size w wi) ∧ Aside0 (wi.heap[w.heap.size]? = some (.cells #[.int .i64 0, .int .i64 0, .int .i64 0, .int .i64 0, .int .i64 0, .int .i64 0, .int .i64 0, .int .i64 0, .int .i64 0, .int .i64 0, .int .i64 0, .int .i64 0, .int .i64 0, .int .i64 0, .int .i64 0, .int .i64 0, .int .i64 0, .int .i64 0, .int .i64 0, .int .i64 0, .int .i64 0, .int .i64 0, .int .i64 0, .int .i64 0, .int .i64 0, .int .i64 0, .int .i64 0, .int .i64 0, .int .i64 0, .int .i64 0, .int .i64 0, .int .i64 0, .int .i64 0, .int .i64 0, .int .i64 0] 55 (0, 0))) ∧ Aside0 (wi.heap[w.heap.size + 1]? = some (.cells (nums .i64 M).toArray 55 (0, 0))))
            case atStart =>
              refine ⟨0, _, rfl, ⟨Nat.zero_le _⟩, ⟨?_⟩, HI2, ⟨Nat.le_refl _⟩, ⟨HB.out.setCell (show w.heap.size ≤ w.heap.size + 1 by omega) _⟩, ⟨row_other HZ.out (by omega) _ _⟩, ⟨row_set HL.out 2 _⟩⟩
              have := hLl.out
              simpa using this
            case round =>
              clear HI2 c1 f1 hx112_0 HB HZ HL hLl
              obtain ⟨p, M, rfl, hp, hM, HA, HK2, HB, HZ, HL⟩ := hrel
              cases gk with
              | zero => exact absurd HA.out (by simp [impl_MapCount.i])
              | succ ki =>
                have H := HA.out
                clear HA
                unfold impl_MapCount.i at H
                by_cases cp : p < 32
                · rw [if_pos cp] at H
                  obtain ⟨b, hb⟩ : ∃ b, b = Go.bits .and .i64 (shr .i64 x (p : Int)) 1 := ⟨_, rfl⟩
                  rw [← hb] at H
                  have HBV := Aside0.mk hb
                  clear hb
                  have HN := Aside0.mk H
                  clear H
                  have cpb0 : decide ((p : Int) < 32) = true := decide_eq_true (by omega)
                  have cpb1 : ((p : Int) < 32) = True := eq_true (by omega)
                  have cpb2 : (p < 32) = True := eq_true cp
                  have cpb3 : (0 ≤ (p : Int)) = True := eq_true (by omega)
                  have CP := Aside0.mk cp
                  clear cp
                  have cL := row_cell HL.out (3 + p) (by have := hM.out; have := CP.out; omega)
                  have fL := row_frozen HL.out (3 + p)
                  go_wp2
                  refine PrintQTail.wp_region_quiet_tail 11 (by kernel_rfl) (by kernel_rfl) ?_
                  simp only [List.take_succ_cons, List.take_zero, List.drop_succ_cons, List.drop_zero]
                  repeat (quiet_step (fail))
                  refine wpQuiet_nil ?_
                  intro w_ hw_
                  obtain ⟨nq, rfl⟩ := hw_
                  go_wp2
                  go_roundg ki
                  case measure => have := HK2.out; have := HK.out; omega
                  case rel =>
                    refine ⟨p + 1, _, by rw [show wrap64 ((p : Int) + 1) = ((p + 1 : Nat) : Int) by (have := CP.out; unfold wrap64; omega)], ⟨by have := CP.out; omega⟩, ⟨?_⟩, HN, ⟨by have := HK2.out; omega⟩, ⟨?_⟩, ⟨?_⟩, ⟨?_⟩⟩
                    · have := hM.out
                      simpa using this
                    · exact (pw_below_drewN HB.out _).setCell (show w.heap.size ≤ w.heap.size + 1 by omega) _
                    · exact row_other (blk_drewN HZ.out _) (by omega) _ _
                    · rw [HBV.out]
                      exact row_set (blk_drewN HL.out _) (3 + p) _
                · rw [if_neg cp] at H
                  obtain rfl := Option.some.inj H
                  have cpb0 : decide ((p : Int) < 32) = false := decide_eq_false (by omega)
                  clear cp H
                  go_wp2
                  go_roundg ko
                  case measure => have := HK.out; omega
                  case rel =>
                    exact ⟨j + 1, M, by rw [show wrap64 ((j : Int) + 1) = ((j + 1 : Nat) : Int) by (have := C9.out; have := HLEN.out; unfold wrap64; omega)], ⟨by have := C9.out; omega⟩, hM, HO, ⟨by have := HK.out; omega⟩, HB, HZ, HL⟩
        · rw [if_neg c9] at H
          obtain rfl := Option.some.inj H
          have c9b0 : decide ((j : Int) < (l0.length : Int)) = false := decide_eq_false (by omega)
          have c9b1 : decide (j < l0.length) = false := decide_eq_false c9
          clear c9 H
          have he := Option.some.inj HEND.out
          simp only [Prod.mk.injEq] at he
          obtain ⟨rfl, rfl⟩ := he
          clear HEND
          go_wp2_with (first | ((with_reducible refine gate_dst (N := 47) rfl ?_); refine hx_load rfl 55 (.tmp 4) rfl (w.heap.size + 1) 35 rfl Try.underlying55 rfl (by kernel_rfl) HL.out (nums_size _ _ _ hLl.out) ?_) | ((with_reducible refine gate_store (t := 55) (p := 2) (v := .tmp 47) rfl ?_); refine hx_store rfl rfl 55 (.tmp 2) (.tmp 47) rfl w.heap.size 35 rfl (nums .i64 L).toArray rfl (by kernel_rfl) (nums_size _ _ _ hLl.out) (nums_one _ _) HZ.out rfl ?_; intro w3 t3 g3))
          refine bodyPost_ret (results_ct rfl _ _ w.heap.size 55 (nums .i64 L).toArray (0, 0) _ rfl g3 Try.underlying55 rfl (by rw [nums_size _ _ _ hLl.out]; kernel_rfl)) rfl ⟨rfl, ?_⟩
          exact t3.below HB.out (Nat.le_refl _)

end Go.Proofs.Ytjhaofdnlnbajaa.PFnFree
