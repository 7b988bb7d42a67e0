/- Snapshots: what both functions answer. -/
import Derived.Great.Walk
import Derived.Test.YtknlpjoidjgciaaDoorQPFnExactSnapshotsx7
import Derived.Test.YtknlpjoidjgciaaDoorQPFnExactSnapshotsx14
import Derived.Test.YtknlpjoidjgciaaDoorQSnb
import Derived.Test.YtknlpjoidjgciaaDoorQW2
namespace Go.Proofs.YtknlpjoidjgciaaDoor.PFnExactSnapshots
open Go Go.RowKit Go.Proofs.YtknlpjoidjgciaaDoorW.PrintWords Go.Proofs.YtknlpjoidjgciaaDoorW.PrintLast Go.Proofs.YtknlpjoidjgciaaDoorW.PrintMore Go.Proofs.YtknlpjoidjgciaaDoorW.PrintHand Go.Proofs.YtknlpjoidjgciaaDoorW.PrintHx Go.Proofs.YtknlpjoidjgciaaDoorW.PrintLe Go.Proofs.YtknlpjoidjgciaaDoorW.PrintIno Go.Proofs.YtknlpjoidjgciaaDoorW.PrintDec Go.Proofs.YtknlpjoidjgciaaDoorW.PrintFsi Go.Proofs.YtknlpjoidjgciaaDoorW.PrintFsb Go.Proofs.YtknlpjoidjgciaaDoorW.PrintFsd Go.Proofs.YtknlpjoidjgciaaDoorW.PrintCrc Go.Proofs.YtknlpjoidjgciaaDoorW.PrintGrow Go.Proofs.YtknlpjoidjgciaaDoorW.PrintSnp Go.Proofs.YtknlpjoidjgciaaDoorW.PrintSnd Go.Proofs.YtknlpjoidjgciaaDoorW.PrintRws Go.Proofs.YtknlpjoidjgciaaDoorW
open Go.Proofs.YtknlpjoidjgciaaDoorW.PrintChs
attribute [local go_sem] max2_int min2_int max_two min_two max_three min_three max_four min_four
set_option linter.unusedVariables false
set_option linter.unusedSimpArgs false
theorem bt_get (s : ByteArray) (i : Nat) (h : i < s.size) : bt s (i : Int) = ((s.get! i).toNat : Int) := by
  have e : s.get! i = s[i]'h := by
    show s.get! i = _
    simp [ByteArray.get!, getElem!_pos, h]
    rfl
  rw [e]
  exact (bt_at s (i : Int) (by simpa using h)).symm
theorem dec_small (s : ByteArray) (i : Nat) (h : (s.get! i).toNat < 128) : Utf8.decode s i = ((s.get! i).toNat, 1) := by
  simp only [Utf8.decode, Nat.add_zero]
  rw [if_pos h]
theorem dec_large (s : ByteArray) (i : Nat) (hi : i < s.size) (h : 128 ≤ (s.get! i).toNat) :
    128 ≤ (Utf8.decode s i).1 ∧ ∃ m, (Utf8.decode s i).2 = m + 1 ∧ ∀ j, j ≤ m → i + j < s.size ∧ 128 ≤ (s.get! (i + j)).toNat := by
  have one : ∃ m, (1 : Nat) = m + 1 ∧ ∀ j, j ≤ m → i + j < s.size ∧ 128 ≤ (s.get! (i + j)).toNat := ⟨0, rfl, fun j hj => by
    obtain rfl : j = 0 := by omega
    exact ⟨hi, h⟩⟩
  simp only [Utf8.decode, Nat.add_zero]
  rw [if_neg (by omega)]
  split
  · rename_i c
    simp only [Bool.and_eq_true, beq_iff_eq, decide_eq_true_eq] at c
    split
    · refine ⟨by assumption, 1, rfl, fun j hj => ?_⟩
      rcases (by omega : j = 0 ∨ j = 1) with rfl | rfl
      · exact ⟨hi, h⟩
      · exact ⟨c.2.1, by omega⟩
    · exact ⟨by simp [Utf8.runeError], one⟩
  · split
    · rename_i c
      simp only [Bool.and_eq_true, beq_iff_eq, decide_eq_true_eq] at c
      split
      · rename_i d
        simp only [Bool.and_eq_true, decide_eq_true_eq] at d
        refine ⟨by have := d.1; omega, 2, rfl, fun j hj => ?_⟩
        rcases (by omega : j = 0 ∨ j = 1 ∨ j = 2) with rfl | rfl | rfl
        · exact ⟨hi, h⟩
        · exact ⟨c.1.2.1, by have := c.1.2.2; omega⟩
        · exact ⟨c.2.1, by have := c.2.2; omega⟩
      · exact ⟨by simp [Utf8.runeError], one⟩
    · split
      · rename_i c
        simp only [Bool.and_eq_true, beq_iff_eq, decide_eq_true_eq] at c
        split
        · rename_i d
          simp only [Bool.and_eq_true, decide_eq_true_eq] at d
          refine ⟨by have := d.1; omega, 3, rfl, fun j hj => ?_⟩
          rcases (by omega : j = 0 ∨ j = 1 ∨ j = 2 ∨ j = 3) with rfl | rfl | rfl | rfl
          · exact ⟨hi, h⟩
          · exact ⟨c.1.1.2.1, by have := c.1.1.2.2; omega⟩
          · exact ⟨c.1.2.1, by have := c.1.2.2; omega⟩
          · exact ⟨c.2.1, by have := c.2.2; omega⟩
        · exact ⟨by simp [Utf8.runeError], one⟩
      · exact ⟨by simp [Utf8.runeError], one⟩
def Bad (s : ByteArray) (i : Nat) : Prop := ∃ j, i ≤ j ∧ j < s.size ∧ ((s.get! j).toNat = 47 ∨ (s.get! j).toNat = 0)
theorem bad_skip {s : ByteArray} {i m : Nat} (h : ∀ j, j < m → ¬ ((s.get! (i + j)).toNat = 47 ∨ (s.get! (i + j)).toNat = 0)) : Bad s i ↔ Bad s (i + m) := by
  constructor
  · rintro ⟨j, h1, h2, h3⟩
    refine ⟨j, ?_, h2, h3⟩
    apply Nat.le_of_not_lt
    intro hlt
    refine h (j - i) (by omega) ?_
    rw [show i + (j - i) = j by omega]
    exact h3
  · rintro ⟨j, h1, h2, h3⟩
    exact ⟨j, by omega, h2, h3⟩
open Classical in
theorem spec_l0 (s : ByteArray) (hs : s.size < 9223372036854775807) : ∀ n k i, s.size - i ≤ n → n < k → spec_CheckName.l0 k s (i : Int) = some (if Bad s i then 7 else 0)
  | n, 0, i, _, hk => absurd hk (by omega)
  | n, k + 1, i, hn, hk => by
    rw [spec_CheckName.l0]
    by_cases hi : i < s.size
    · rw [if_pos (by omega), if_pos (by omega), bt_get s i hi]
      by_cases c1 : (s.get! i).toNat = 47
      · rw [if_pos (by omega), if_pos ⟨i, Nat.le_refl _, hi, Or.inl c1⟩]
      · rw [if_neg (by omega)]
        by_cases c2 : (s.get! i).toNat = 0
        · rw [if_pos (by omega), if_pos ⟨i, Nat.le_refl _, hi, Or.inr c2⟩]
        · obtain ⟨n', rfl⟩ : ∃ n', n = n' + 1 := ⟨n - 1, by omega⟩
          rw [if_neg (by omega), w64n (by omega), spec_l0 s hs n' k (i + 1) (by omega) (by omega)]
          have hb : Bad s i ↔ Bad s (i + 1) := bad_skip (fun j hj => by
            obtain rfl : j = 0 := by omega
            simp only [Nat.add_zero]
            omega)
          simp only [hb]
    · rw [if_neg (by omega), if_neg (fun ⟨j, h1, h2, _⟩ => by omega)]
open Classical in
theorem impl_l0 (s : ByteArray) : ∀ n k i, s.size - i ≤ n → n < k → impl_CheckName.l0 k s i = some (if Bad s i then 7 else 0)
  | n, 0, i, _, hk => absurd hk (by omega)
  | n, k + 1, i, hn, hk => by
    rw [impl_CheckName.l0]
    by_cases hi : i < s.size
    · rw [if_pos hi]
      by_cases hb : (s.get! i).toNat < 128
      · rw [dec_small s i hb]
        by_cases c1 : (s.get! i).toNat = 47
        · rw [if_pos c1, if_pos ⟨i, Nat.le_refl _, hi, Or.inl c1⟩]
        · rw [if_neg c1]
          by_cases c2 : (s.get! i).toNat = 0
          · rw [if_pos c2, if_pos ⟨i, Nat.le_refl _, hi, Or.inr c2⟩]
          · obtain ⟨n', rfl⟩ : ∃ n', n = n' + 1 := ⟨n - 1, by omega⟩
            rw [if_neg c2, impl_l0 s n' k (i + 1) (by omega) (by omega)]
            have hb : Bad s i ↔ Bad s (i + 1) := bad_skip (fun j hj => by
              obtain rfl : j = 0 := by omega
              simp only [Nat.add_zero]
              omega)
            simp only [hb]
      · obtain ⟨h1, m, h2, h3⟩ := dec_large s i hi (by omega)
        have := (h3 m (Nat.le_refl _)).1
        obtain ⟨n', rfl⟩ : ∃ n', n = n' + 1 := ⟨n - 1, by omega⟩
        rw [if_neg (by omega), if_neg (by omega), h2, impl_l0 s n' k (i + (m + 1)) (by omega) (by omega)]
        have hb : Bad s i ↔ Bad s (i + (m + 1)) := bad_skip (fun j hj => by
          have := (h3 j (by omega)).2
          omega)
        simp only [hb]
    · rw [if_neg hi, if_neg (fun ⟨j, h1, h2, _⟩ => by omega)]
theorem checkName_eq (s : ByteArray) (k : Nat) (hk : 100 < k) : ∃ r, spec_CheckName.f k s = some r ∧ impl_CheckName.f k s = some r := by
  obtain ⟨k, rfl⟩ : ∃ k', k = k' + 1 := ⟨k - 1, by omega⟩
  unfold spec_CheckName.f impl_CheckName.f
  by_cases c1 : s.toList = ([] : List UInt8)
  · rw [if_pos c1, if_pos c1, spec_CheckName.j0, if_pos rfl]
    exact ⟨_, rfl, rfl⟩
  rw [if_neg c1, if_neg c1]
  by_cases c2 : s.toList = ([46] : List UInt8)
  · rw [if_pos c2, if_pos c2, spec_CheckName.j0, if_pos rfl]
    exact ⟨_, rfl, rfl⟩
  rw [if_neg c2, if_neg c2]
  by_cases c3 : s.toList = ([46, 46] : List UInt8)
  · rw [if_pos c3, spec_CheckName.j0, if_pos (by rw [c3]; rfl)]
    exact ⟨_, rfl, rfl⟩
  rw [if_neg c3, spec_CheckName.j0, if_neg (by simpa using c3)]
  by_cases c4 : (s.size : Int) > 26
  · rw [if_pos c4, if_pos c4]
    exact ⟨_, rfl, rfl⟩
  rw [if_neg c4, if_neg c4]
  have e := spec_l0 s (by omega) 26 k 0 (by omega) (by omega)
  have e' := impl_l0 s 26 (k + 1) 0 (by omega) (by omega)
  exact ⟨_, e, e'⟩
theorem checkName_all (s : ByteArray) (k : Nat) (hk : 100 < k) : ∃ r, spec_CheckName.f k s = some r ∧ impl_CheckName.f k s = some r ∧ (r = 0 → s.size ≤ 26) := by
  obtain ⟨r, h1, h2⟩ := checkName_eq s k hk
  refine ⟨r, h1, h2, fun hr => ?_⟩
  obtain ⟨k, rfl⟩ : ∃ k', k = k' + 1 := ⟨k - 1, by omega⟩
  apply Nat.le_of_not_lt
  intro hlt
  unfold impl_CheckName.f at h2
  by_cases c1 : s.toList = ([] : List UInt8)
  · rw [if_pos c1] at h2
    simp only [Option.some.injEq] at h2
    omega
  rw [if_neg c1] at h2
  by_cases c2 : s.toList = ([46] : List UInt8)
  · rw [if_pos c2] at h2
    simp only [Option.some.injEq] at h2
    omega
  rw [if_neg c2] at h2
  by_cases c3 : s.toList = ([46, 46] : List UInt8)
  · rw [if_pos c3] at h2
    simp only [Option.some.injEq] at h2
    omega
  rw [if_neg c3, if_pos (by omega)] at h2
  simp only [Option.some.injEq] at h2
  omega
noncomputable def ckC (s : ByteArray) : Int := Classical.choose (checkName_all s 101 (by decide))
theorem ckC_f (s : ByteArray) : spec_CheckName.f 101 s = some (ckC s) ∧ impl_CheckName.f 101 s = some (ckC s) ∧ (ckC s = 0 → s.size ≤ 26) := Classical.choose_spec (checkName_all s 101 (by decide))
noncomputable def snD (l : List Int) (b : Nat) : Int × ByteArray × Int × Int × List Int × Int := snapA (ckC (nameS (blk l b))) (blk l b)
noncomputable def snStep (l P : List Int) (i : Nat) (out : List Sn) : Option (List Sn) :=
  if P.getD i 0 = 0 then some out else
    if (snD l (P.getD i 0).toNat).2.2.2.2.2 ≠ 0 ∨ (snD l (P.getD i 0).toNat).1 ≠ (i : Int) + 1 ∨ memB (snD l (P.getD i 0).toNat).2.1 (out.map Sn.s) = true then none
    else some (out ++ [⟨(snD l (P.getD i 0).toNat).1, (snD l (P.getD i 0).toNat).2.1, (snD l (P.getD i 0).toNat).2.2.1, (snD l (P.getD i 0).toNat).2.2.2.1, (snD l (P.getD i 0).toNat).2.2.2.2.1⟩])
noncomputable def snN (l P : List Int) : Nat → Option (List Sn)
  | 0 => some []
  | i + 1 => (snN l P i).bind (snStep l P i)
noncomputable def snF (l P : List Int) : List Sn × Int := match snN l P 31 with | none => ([], 21) | some o => (o, 0)
noncomputable def snapsF (l : List Int) : List Sn × Int := if (chooseF (decA l) l).2.2 = 0 then snF l (fsS (chooseF (decA l) l).1) else ([], (chooseF (decA l) l).2.2)
theorem snN_none {l P : List Int} {i : Nat} (h : snN l P i = none) : ∀ d, snN l P (i + d) = none
  | 0 => h
  | d + 1 => by
    rw [← Nat.add_assoc]
    show (snN l P (i + d)).bind _ = none
    rw [snN_none h d]
    rfl
theorem snF_bad {l P : List Int} {i : Nat} (hi : i < 31) {o : List Sn} (h : snN l P i = some o) (hs : snStep l P i o = none) : snF l P = ([], 21) := by
  have e : snN l P (i + 1) = none := by
    show (snN l P i).bind _ = none
    rw [h]
    exact hs
  have := snN_none e (31 - (i + 1))
  rw [show i + 1 + (31 - (i + 1)) = 31 by omega] at this
  unfold snF
  rw [this]
theorem snF_all {l P : List Int} {i : Nat} (hi : i = 31) {o : List Sn} (h : snN l P i = some o) : snF l P = (o, 0) := by
  unfold snF
  rw [← hi, h]
theorem snN_step {l P : List Int} {i : Nat} {o o' : List Sn} (h : snN l P i = some o) (hs : snStep l P i o = some o') : snN l P (i + 1) = some o' := by
  show (snN l P i).bind _ = _
  rw [h]
  exact hs
theorem snStep_zero {l P : List Int} {i : Nat} {o : List Sn} (h : P.getD i 0 = 0) : snStep l P i o = some o := if_pos h
theorem snStep_bad {l P : List Int} {i b : Nat} {o : List Sn} {x : Int} {s : ByteArray} {p q : Int} {r : List Int} {k : Int} (hb : P.getD i 0 = (b : Int)) (h0 : b ≠ 0) (hd : snD l b = (x, s, p, q, r, k)) (h : k ≠ 0 ∨ x ≠ (i : Int) + 1 ∨ memB s (o.map Sn.s) = true) : snStep l P i o = none := by
  unfold snStep
  rw [hb, Int.toNat_natCast, hd, if_neg (by omega), if_pos h]
theorem snStep_good {l P : List Int} {i b : Nat} {o : List Sn} {x : Int} {s : ByteArray} {p q : Int} {r : List Int} {k : Int} (hb : P.getD i 0 = (b : Int)) (h0 : b ≠ 0) (hd : snD l b = (x, s, p, q, r, k)) (h1 : k = 0) (h2 : x = (i : Int) + 1) (h3 : memB s (o.map Sn.s) = false) : snStep l P i o = some (o ++ [⟨x, s, p, q, r⟩]) := by
  unfold snStep
  rw [hb, Int.toNat_natCast, hd, if_neg (by omega), if_neg (by rintro (h | h | h); exact h h1; exact h h2; rw [h3] at h; cases h)]
theorem snN_le {l P : List Int} : ∀ {i : Nat} {o : List Sn}, snN l P i = some o → o.length ≤ i
  | 0, o, h => by
    have : o = [] := (Option.some.inj h).symm
    rw [this]
    exact Nat.le_refl _
  | i + 1, o, h => by
    have h' : (snN l P i).bind (snStep l P i) = some o := h
    obtain ⟨o1, e1, e2⟩ := Option.bind_eq_some_iff.1 h'
    have ih := snN_le e1
    unfold snStep at e2
    split at e2
    · obtain rfl := Option.some.inj e2
      omega
    · split at e2
      · cases e2
      · obtain rfl := Option.some.inj e2
        rw [List.length_append, List.length_singleton]
        omega
theorem decF_good {r l L : List Int} (h : decF r l = (L, 0)) : fsGood L = true := by
  unfold decF at h
  split at h
  · rename_i c
    simp only [Prod.mk.injEq] at h
    rw [← h.1]
    exact c.2.1
  · simp only [Prod.mk.injEq] at h
    omega
theorem stN_good {d : Nat → List Int × Int} (hd : ∀ j L, d j = (L, 0) → fsGood L = true) {n : Int} : ∀ j, (stN d n j).2.2 = true → fsGood (stN d n j).1 = true ∧ (stN d n j).1.getD 1 0 = n
  | 0, h => by simp [stN] at h
  | j + 1, h => by
    unfold stN at h ⊢
    split
    · rename_i c
      exact ⟨hd j _ (Prod.ext rfl c.1.1), c.1.2⟩
    · rename_i c
      rw [if_neg c] at h
      exact stN_good hd j h
theorem choose_good {l L : List Int} {a : Int} (h : chooseF (decA l) l = (L, a, 0)) : fsGood L = true ∧ L.getD 1 0 = sizeN l ∧ sizeN l ≠ 0 := by
  unfold chooseF at h
  split at h
  · simp only [Prod.mk.injEq] at h
    omega
  · rename_i hs
    unfold chosen at h
    split at h
    · rename_i c
      simp only [Prod.mk.injEq] at h
      have := stN_good (fun j L hj => decF_good hj) 2 c
      rw [← h.1]
      exact ⟨this.1, this.2, hs⟩
    · simp only [Prod.mk.injEq] at h
      omega
theorem snap_place {l L : List Int} {a : Int} (h : chooseF (decA l) l = (L, a, 0)) (hl : L.length = 68) (i : Nat) (hi : i < 31) : ∃ b : Nat, (fsS L).getD i 0 = (b : Int) ∧ 512 * b + 512 ≤ l.length ∧ b < 2048 ∧ b < l.length / 512 := by
  obtain ⟨hg, hn, hz⟩ := choose_good h
  obtain ⟨e, hm, h64, _⟩ := sizeN_pos hz
  have hp : fsPtr (L.getD 1 0) ((fsS L).getD i 0) = true := by
    have hal : (fsPtrs L).all (fsPtr (L.getD 1 0)) = true := by
      unfold fsGood fsTop at hg
      simp only [Bool.and_eq_true] at hg
      exact hg.2.2.2.2.2.2.2.2.2.2.2
    have hlen : i < (fsS L).length := by rw [fsS, seg_le _ _ (by omega)]; exact hi
    refine List.all_eq_true.1 hal _ ?_
    rw [List.getD_eq_getElem?_getD, List.getElem?_eq_getElem hlen]
    exact List.mem_append_right _ (List.getElem_mem hlen)
  obtain ⟨p, hpe⟩ : ∃ p, p = (fsS L).getD i 0 := ⟨_, rfl⟩
  rw [← hpe] at hp ⊢
  rw [hn, e] at hp
  unfold fsPtr ptrOk at hp
  simp only [Bool.and_eq_true, Bool.or_eq_true, decide_eq_true_eq] at hp
  refine ⟨p.toNat, by omega, ?_, by omega, by omega⟩
  omega
theorem snapsF_bad {l L : List Int} {a c : Int} (h : chooseF (decA l) l = (L, a, c)) (hc : c ≠ 0) : snapsF l = ([], c) := by
  unfold snapsF
  rw [h, if_neg hc]
theorem snapsF_good {l L : List Int} {a : Int} (h : chooseF (decA l) l = (L, a, 0)) : snapsF l = snF l (fsS L) := by
  unfold snapsF
  rw [h, if_pos rfl]
theorem choose_len {l L : List Int} {a c : Int} (h : chooseF (decA l) l = (L, a, c)) : L.length = 68 := by
  have := chooseF_length (d := decA l) (fun j => decF_length (fsA_length _)) l
  rw [h] at this
  exact this
theorem snD_len {l : List Int} {b : Nat} {x : Int} {s : ByteArray} {p q : Int} {r : List Int} {k : Int} (h : snD l b = (x, s, p, q, r, k)) : r.length = 15 := decS_root (rootOf_length _ _) h
section
variable {P : Program} {ops : Array Oper} {rest : List Oper} {o : Oper} {a : Act} {w : World} {Q : Exit → Act → World → Prop}
theorem ex_alloc (hgd : o.guard = none) (N : Tmp) (hd : o.dst = some N) (t : TypeId) (ho : o.op = .alloc t) (z : Value) (zs : Array Value) (hz : ∀ w, (zeroValue t).run P w = .ok z w) (hzs : z.cells = zs)
    (h : ∀ (s : Nat) (w' : World), Aside0 (w.heap.size = s) → Aside0 (w'.heap.size = s + 1) → Below w.heap.size w w' → w'.heap[s]? = some (.cells zs t (0, 0)) → wpList P ops Q rest (a.put (some N) (.pointer (some ⟨s, 0, none⟩))) w') : wpList P ops Q (o :: rest) a w := by
  subst hzs
  refine Go.Great.wpList_runTo hgd (some N) hd (.pointer (some ⟨w.heap.size, 0, none⟩)) (w.alloc (.cells z.cells t)) ?_ (h _ _ ⟨rfl⟩ ⟨World.size_alloc _ _⟩ (below_alloc (Below.refl _ _) _) (blk_new _ _))
  unfold execOp
  simp only [ho, Instr.alloc, Sem.run_bind, hz, Result.andThen_ok, newVar, newRow, run_newObj_alloc, Sem.run_pure]
theorem ex_lit1 (hgd : o.guard = none) (N : Tmp) (hN : o.dst = some N) (t e n : Nat) (x : Operand) (ho : o.op = .buildSlice t 1 #[(0, x)]) (L : List Value) (hx : a.eval x = .agg L.toArray) (hL : L.length = n) (h1 : ∀ v ∈ L, v.oneCell' = true) {s : Nat} (hs : Aside0 (w.heap.size = s))
    (hr : ∀ w : World, (Instr.buildSlice t 1 #[(0, .agg L.toArray)]).run P w = .ok (.slice (some ⟨w.heap.size, 0, none⟩) 1 1) (w.alloc (.cells L.toArray e)))
    (h : ∀ w', Below w.heap.size w w' → Aside0 (Kd.C (cellsK n) w' (some ⟨s, 0, none⟩) 1 [L]) → wpList P ops Q rest (a.put (some N) (.slice (some ⟨s, 0, none⟩) 1 1)) w') : wpList P ops Q (o :: rest) a w := by
  have e_ := hs.out
  subst e_
  refine wpList_plain hgd fun K hK => ?_
  unfold Oper.wp execOp
  simp only [ho, List.map_toArray, List.map_cons, List.map_nil, hx, Sem.run_bind, hr, Result.andThen_ok, Sem.run_pure, Oper.upon_value]
  rw [hN]
  refine hK _ _ (h _ (below_alloc (Below.refl _ _) _) ⟨⟨rfl, by decide, fun _ => ⟨_, rfl, fun j p hj => ?_⟩⟩⟩)
  obtain rfl : j = 0 := by
    have := (List.getElem?_eq_some_iff.1 hj).1
    simpa using this
  obtain rfl : L = p := by simpa using hj
  refine ⟨L, hL, ⟨rfl, hL, h1⟩, fun i u hi => ?_⟩
  have hb := blk_new w (.cells L.toArray e)
  have ha : (⟨w.heap.size, 0, none⟩ : Addr).add (0 * (cellsK n).sz + i) = ⟨w.heap.size, i, none⟩ := by
    rw [Nat.zero_mul, Nat.zero_add, add_plain]
    try simp
  rw [ha]
  exact (blk_cell hb i).trans (by simpa using hi)
end
theorem lit131 : ∀ (x : Int) (s : ByteArray) (p q : Int) (z : List Int), z.length = 15 → ∀ w : World, (Instr.buildSlice 71 1 #[(0, .agg (snapC x s p q z).toArray)]).run Tryd.prog w = .ok (.slice (some ⟨w.heap.size, 0, none⟩) 1 1) (w.alloc (.cells (snapC x s p q z).toArray 131)) := by
  intro x s p q z h w_
  obtain ⟨x0, b0, rfl, h0⟩ := cons_of_len h
  obtain ⟨x1, b1, rfl, h1⟩ := cons_of_len h0
  obtain ⟨x2, b2, rfl, h2⟩ := cons_of_len h1
  obtain ⟨x3, b3, rfl, h3⟩ := cons_of_len h2
  obtain ⟨x4, b4, rfl, h4⟩ := cons_of_len h3
  obtain ⟨x5, b5, rfl, h5⟩ := cons_of_len h4
  obtain ⟨x6, b6, rfl, h6⟩ := cons_of_len h5
  obtain ⟨x7, b7, rfl, h7⟩ := cons_of_len h6
  obtain ⟨x8, b8, rfl, h8⟩ := cons_of_len h7
  obtain ⟨x9, b9, rfl, h9⟩ := cons_of_len h8
  obtain ⟨x10, b10, rfl, h10⟩ := cons_of_len h9
  obtain ⟨x11, b11, rfl, h11⟩ := cons_of_len h10
  obtain ⟨x12, b12, rfl, h12⟩ := cons_of_len h11
  obtain ⟨x13, b13, rfl, h13⟩ := cons_of_len h12
  obtain ⟨x14, b14, rfl, h14⟩ := cons_of_len h13
  obtain rfl := List.length_eq_zero_iff.mp h14
  kernel_rfl
theorem snapC_all1 (x : Int) (s : ByteArray) (p q : Int) (r : List Int) : ∀ v ∈ snapC x s p q r, v.oneCell' = true := by
  have h := snapC_one x s p q r
  intro v hv
  exact List.all_eq_true.1 h v (by simpa using hv)
end Go.Proofs.YtknlpjoidjgciaaDoor.PFnExactSnapshots
