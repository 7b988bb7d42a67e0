/- FnTable: the plain part: what is encoded is decoded, and the lowest free number. -/
import Derived.Test.YtkghgjehjchajaaTbt
namespace Go.Proofs.Ytkghgjehjchajaa.PureTable
open Go.RowKit Go.Proofs.YtkghgjehjchajaaW.PrintWords Go.Proofs.YtkghgjehjchajaaW.PrintLast Go.Proofs.YtkghgjehjchajaaW.PrintMore Go.Proofs.YtkghgjehjchajaaW Go.Proofs.YtkghgjehjchajaaW.PrintHand Go.Proofs.YtkghgjehjchajaaW.PrintHx
open Go.Proofs.YtkghgjehjchajaaW.PrintLe Go.Proofs.YtkghgjehjchajaaW.PrintIno Go.Proofs.YtkghgjehjchajaaW.PrintDec Go.Proofs.YtkghgjehjchajaaW.PrintTabl Go.Proofs.YtkghgjehjchajaaW.PrintTab2 Go.Proofs.YtkghgjehjchajaaW.PrintTab3 Go.Proofs.Ytkghgjehjchajaa.PFnTable
set_option linter.unusedVariables false
set_option linter.unusedSimpArgs false
theorem seg_app_r (a b : List Int) (o m : Nat) (h : a.length ≤ o) : seg (a ++ b) o m = seg b (o - a.length) m := by
  unfold seg
  rw [List.drop_append, List.drop_eq_nil_of_le h, List.nil_append]
theorem seg_front (a b : List Int) (m : Nat) (h : a.length = m) : seg (a ++ b) 0 m = a := by
  unfold seg
  rw [List.drop_zero, ← h, List.take_left]
theorem seg_app_l (a b : List Int) (o m : Nat) (h : o + m ≤ a.length) : seg (a ++ b) o m = seg a o m := by
  unfold seg
  rw [List.drop_append_of_le_length (by omega), List.take_append_of_le_length (by rw [List.length_drop]; omega)]
theorem seg_skip (v : Int) (n : Nat) (b : List Int) (o m : Nat) (h : n ≤ o) : seg (leB v n ++ b) o m = seg b (o - n) m := by
  rw [seg_app_r _ _ _ _ (by rw [leB_length]; exact h), leB_length]
theorem seg_take (v : Int) (n : Nat) (b : List Int) : seg (leB v n ++ b) 0 n = leB v n := seg_front _ _ _ (leB_length v n)
theorem seg_one (v : Int) (b : List Int) : seg (leB v 2 ++ b) 0 1 = [v % 256] := by
  simp [seg, leB]
theorem seg_flat4 : ∀ (l : List Int) (k : Nat), k < l.length → seg (flat4 l) (4 * k) 4 = leB (l.getD k 0) 4
  | [], k, h => by simp at h
  | v :: vs, 0, h => by
    show seg (leB v 4 ++ flat4 vs) 0 4 = leB v 4
    exact seg_take v 4 _
  | v :: vs, k + 1, h => by
    show seg (leB v 4 ++ flat4 vs) (4 * (k + 1)) 4 = leB (vs.getD k 0) 4
    rw [seg_skip _ _ _ _ _ (by omega), show 4 * (k + 1) - 4 = 4 * k by omega, seg_flat4 vs k (by simpa using h)]
/-- what a right root's bytes say -/
theorem rootA_bytes {r : List Int} (h : r.length = 15) (hg : rootGood r = true) : rootA (rootBytes r) = r := by
  have hs := rootGood_size hg
  have hp := rootGood_ptr hg
  have hl : (seg r 1 14).length = 14 := part_len h (by decide)
  have hq : ∀ k, k < 14 → le (seg (rootBytes r) (8 + 4 * k) 4) = (seg r 1 14).getD k 0 := by
    intro k hk
    have hb := hp k hk
    rw [rootBytes, seg_skip _ _ _ _ _ (by omega), show 8 + 4 * k - 8 = 4 * k by omega, seg_flat4 _ k (by omega), le_leB _ _ hb.1 (by omega)]
  have h0 : gcap (seg (rootBytes r) 0 8) = r.getD 0 0 := by
    rw [rootBytes, seg_take]
    unfold gcap
    rw [le_leB _ _ hs.1 (by omega), if_pos (by omega)]
  have hv : rootVals (rootBytes r) ++ [le (seg (rootBytes r) 56 4), le (seg (rootBytes r) 60 4)] = seg r 1 14 := by
    have e1 := hq 12 (by decide)
    have e2 := hq 13 (by decide)
    rw [show 8 + 4 * 12 = 56 from rfl] at e1
    rw [show 8 + 4 * 13 = 60 from rfl] at e2
    rw [e1, e2]
    unfold rootVals
    have e3 : (List.range 12).map (fun k => le (seg (rootBytes r) (8 + 4 * k) 4)) = (List.range 12).map (fun k => (seg r 1 14).getD k 0) := by
      apply List.map_congr_left
      intro k hk
      exact hq k (by have := List.mem_range.1 hk; omega)
    rw [e3]
    generalize seg r 1 14 = p at hl
    apply List.ext_getElem
    · simp [hl]
    intro i h1 h2
    by_cases hi : i < 12
    · rw [List.getElem_append_left (by simpa using hi), List.getElem_map, List.getElem_range, List.getD_eq_getElem?_getD, List.getElem?_eq_getElem h2]
      rfl
    · have h12 : ((List.range 12).map (fun k => p.getD k 0)).length = 12 := by simp
      rw [List.getElem_append_right (by omega)]
      rcases (by omega : i = 12 ∨ i = 13) with rfl | rfl
      · simp only [h12, Nat.sub_self, List.getElem_cons_zero]
        rw [List.getD_eq_getElem?_getD, List.getElem?_eq_getElem h2]
        rfl
      · simp only [h12, show 13 - 12 = 1 from rfl, List.getElem_cons_succ, List.getElem_cons_zero]
        rw [List.getD_eq_getElem?_getD, List.getElem?_eq_getElem h2]
        rfl
  show gcap (seg (rootBytes r) 0 8) :: (rootVals (rootBytes r) ++ [le (seg (rootBytes r) 56 4), le (seg (rootBytes r) 60 4)]) = r
  rw [h0, hv]
  cases r with
  | nil => simp at h
  | cons a r =>
    unfold seg
    simp only [List.length_cons] at h
    rw [List.drop_succ_cons, List.drop_zero, List.take_of_length_le (by omega)]
    rfl
theorem parts_of {x : List Int} (h : x.length = 24) : x.getD 0 0 :: x.getD 1 0 :: x.getD 2 0 :: x.getD 3 0 :: x.getD 4 0 :: x.getD 5 0 :: x.getD 6 0 :: x.getD 7 0 :: x.getD 8 0 :: seg x 9 15 = x := by
  obtain ⟨y0, b0, rfl, h0⟩ := cons_of_len h
  obtain ⟨y1, b1, rfl, h1⟩ := cons_of_len h0
  obtain ⟨y2, b2, rfl, h2⟩ := cons_of_len h1
  obtain ⟨y3, b3, rfl, h3⟩ := cons_of_len h2
  obtain ⟨y4, b4, rfl, h4⟩ := cons_of_len h3
  obtain ⟨y5, b5, rfl, h5⟩ := cons_of_len h4
  obtain ⟨y6, b6, rfl, h6⟩ := cons_of_len h5
  obtain ⟨y7, b7, rfl, h7⟩ := cons_of_len h6
  obtain ⟨y8, b8, rfl, h8⟩ := cons_of_len h7
  obtain ⟨y9, b9, rfl, h9⟩ := cons_of_len h8
  obtain ⟨y10, b10, rfl, h10⟩ := cons_of_len h9
  obtain ⟨y11, b11, rfl, h11⟩ := cons_of_len h10
  obtain ⟨y12, b12, rfl, h12⟩ := cons_of_len h11
  obtain ⟨y13, b13, rfl, h13⟩ := cons_of_len h12
  obtain ⟨y14, b14, rfl, h14⟩ := cons_of_len h13
  obtain ⟨y15, b15, rfl, h15⟩ := cons_of_len h14
  obtain ⟨y16, b16, rfl, h16⟩ := cons_of_len h15
  obtain ⟨y17, b17, rfl, h17⟩ := cons_of_len h16
  obtain ⟨y18, b18, rfl, h18⟩ := cons_of_len h17
  obtain ⟨y19, b19, rfl, h19⟩ := cons_of_len h18
  obtain ⟨y20, b20, rfl, h20⟩ := cons_of_len h19
  obtain ⟨y21, b21, rfl, h21⟩ := cons_of_len h20
  obtain ⟨y22, b22, rfl, h22⟩ := cons_of_len h21
  obtain ⟨y23, b23, rfl, h23⟩ := cons_of_len h22
  obtain rfl := List.length_eq_zero_iff.mp h23
  rfl
/-- what a right inode's bytes say -/
theorem inodeA_bytes {x : List Int} (h : x.length = 24) (hg : inodeGood x = true) : inodeA (inodeBytes x) = x := by
  obtain ⟨p0, p1, p2, p3, p4, p5, p6, p7, p8, pr⟩ := inodeGood_get hg
  have hr : (seg x 9 15).length = 15 := part_len h (by decide)
  have e : inodeBytes x = leB (x.getD 0 0) 2 ++ (leB (x.getD 1 0) 2 ++ (leB (x.getD 2 0) 2 ++ (leB (x.getD 3 0) 2 ++ (leB (x.getD 4 0) 2 ++ (leB 0 2 ++ (leB (x.getD 5 0) 4 ++ (leB (x.getD 6 0) 8 ++ (leB (x.getD 7 0) 8 ++ (leB (x.getD 8 0) 8 ++ (rootBytes (seg x 9 15) ++ List.replicate 24 0)))))))))) := by
    simp only [inodeBytes, inoParts, List.flatten_cons, List.flatten_nil, List.append_assoc, List.append_nil, List.nil_append]
  have s0 : seg (inodeBytes x) 0 1 = [x.getD 0 0 % 256] := by
    rw [e]
    exact seg_one _ _
  have s1 : seg (inodeBytes x) 2 2 = leB (x.getD 1 0) 2 := by
    rw [e]
    exact (seg_skip _ _ _ _ _ (by decide)).trans (seg_take _ _ _)
  have s2 : seg (inodeBytes x) 4 2 = leB (x.getD 2 0) 2 := by
    rw [e]
    exact (seg_skip _ _ _ _ _ (by decide)).trans ((seg_skip _ _ _ _ _ (by decide)).trans (seg_take _ _ _))
  have s3 : seg (inodeBytes x) 6 2 = leB (x.getD 3 0) 2 := by
    rw [e]
    exact (seg_skip _ _ _ _ _ (by decide)).trans ((seg_skip _ _ _ _ _ (by decide)).trans ((seg_skip _ _ _ _ _ (by decide)).trans (seg_take _ _ _)))
  have s4 : seg (inodeBytes x) 8 2 = leB (x.getD 4 0) 2 := by
    rw [e]
    exact (seg_skip _ _ _ _ _ (by decide)).trans ((seg_skip _ _ _ _ _ (by decide)).trans ((seg_skip _ _ _ _ _ (by decide)).trans ((seg_skip _ _ _ _ _ (by decide)).trans (seg_take _ _ _))))
  have s5 : seg (inodeBytes x) 12 4 = leB (x.getD 5 0) 4 := by
    rw [e]
    exact (seg_skip _ _ _ _ _ (by decide)).trans ((seg_skip _ _ _ _ _ (by decide)).trans ((seg_skip _ _ _ _ _ (by decide)).trans ((seg_skip _ _ _ _ _ (by decide)).trans ((seg_skip _ _ _ _ _ (by decide)).trans ((seg_skip _ _ _ _ _ (by decide)).trans (seg_take _ _ _))))))
  have s6 : seg (inodeBytes x) 16 8 = leB (x.getD 6 0) 8 := by
    rw [e]
    exact (seg_skip _ _ _ _ _ (by decide)).trans ((seg_skip _ _ _ _ _ (by decide)).trans ((seg_skip _ _ _ _ _ (by decide)).trans ((seg_skip _ _ _ _ _ (by decide)).trans ((seg_skip _ _ _ _ _ (by decide)).trans ((seg_skip _ _ _ _ _ (by decide)).trans ((seg_skip _ _ _ _ _ (by decide)).trans (seg_take _ _ _)))))))
  have s7 : seg (inodeBytes x) 24 8 = leB (x.getD 7 0) 8 := by
    rw [e]
    exact (seg_skip _ _ _ _ _ (by decide)).trans ((seg_skip _ _ _ _ _ (by decide)).trans ((seg_skip _ _ _ _ _ (by decide)).trans ((seg_skip _ _ _ _ _ (by decide)).trans ((seg_skip _ _ _ _ _ (by decide)).trans ((seg_skip _ _ _ _ _ (by decide)).trans ((seg_skip _ _ _ _ _ (by decide)).trans ((seg_skip _ _ _ _ _ (by decide)).trans (seg_take _ _ _))))))))
  have s8 : seg (inodeBytes x) 32 8 = leB (x.getD 8 0) 8 := by
    rw [e]
    exact (seg_skip _ _ _ _ _ (by decide)).trans ((seg_skip _ _ _ _ _ (by decide)).trans ((seg_skip _ _ _ _ _ (by decide)).trans ((seg_skip _ _ _ _ _ (by decide)).trans ((seg_skip _ _ _ _ _ (by decide)).trans ((seg_skip _ _ _ _ _ (by decide)).trans ((seg_skip _ _ _ _ _ (by decide)).trans ((seg_skip _ _ _ _ _ (by decide)).trans ((seg_skip _ _ _ _ _ (by decide)).trans (seg_take _ _ _)))))))))
  have s9 : seg (inodeBytes x) 40 64 = rootBytes (seg x 9 15) := by
    rw [e]
    exact (seg_skip _ _ _ _ _ (by decide)).trans ((seg_skip _ _ _ _ _ (by decide)).trans ((seg_skip _ _ _ _ _ (by decide)).trans ((seg_skip _ _ _ _ _ (by decide)).trans ((seg_skip _ _ _ _ _ (by decide)).trans ((seg_skip _ _ _ _ _ (by decide)).trans ((seg_skip _ _ _ _ _ (by decide)).trans ((seg_skip _ _ _ _ _ (by decide)).trans ((seg_skip _ _ _ _ _ (by decide)).trans ((seg_skip _ _ _ _ _ (by decide)).trans (seg_front _ _ _ (rootBytes_length hr)))))))))))
  have g : ∀ (v : Int), 0 ≤ v ∧ v ≤ 1099511627776 → gcap (leB v 8) = v := by
    intro v hv
    unfold gcap
    rw [le_leB _ _ hv.1 (by omega), if_pos (by omega)]
  unfold inodeA inodeOf
  rw [s0, s1, s2, s3, s4, s5, s6, s7, s8, s9, rootA_bytes hr pr, g _ p6, g _ p7, g _ p8, le_leB _ _ p1.1 (by omega), le_leB _ _ p2.1 (by omega), le_leB _ _ p3.1 (by omega), le_leB _ _ p4.1 (by omega), le_leB _ _ p5.1 (by omega)]
  have k0 : le [x.getD 0 0 % 256] = x.getD 0 0 := by
    simp only [le]
    omega
  rw [k0]
  exact parts_of h
/-! ### The table -/
theorem chunk_to {l : List (List Int)} (h : ∀ x ∈ l, x.length = 24) (j : Nat) : ∀ n, j < n → chunk (tableBytesTo l n) j = inodeBytes (atI l j)
  | 0, hj => by omega
  | n + 1, hj => by
    rw [tableBytesTo_succ]
    have hl := tableBytesTo_length h n
    have hb := inodeBytes_length (atI_length h n)
    unfold chunk
    by_cases hjn : j = n
    · subst hjn
      rw [seg_app_r _ _ _ _ (by omega), hl, Nat.sub_self]
      have := seg_front (inodeBytes (atI l j)) [] 128 hb
      rwa [List.append_nil] at this
    · rw [seg_app_l _ _ _ _ (by omega)]
      exact chunk_to h j n (by omega)
theorem decAt_to {l : List (List Int)} (h : ∀ x ∈ l, x.length = 24) (hg : allGood l = true) (j n : Nat) (hj : j < n) : decAt (tableBytesTo l n) j = (atI l j, 0) := by
  unfold decAt
  rw [chunk_to h j n hj, inodeA_bytes (atI_length h j) (atI_good hg j), decI, if_pos ⟨inodeBytes_length (atI_length h j), atI_good hg j, rfl⟩]
theorem lastK_kind (l : List (List Int)) : ∀ n, 2 ≤ lastK l n → ¬ (l.getD (lastK l n).toNat []).getD 0 0 = 0 ∧ (lastK l n).toNat < n
  | 0, h => by
    have : lastK l 0 = 1 := rfl
    omega
  | n + 1, h => by
    by_cases c : (l.getD n []).getD 0 0 = 0
    · have e : lastK l (n + 1) = lastK l n := by rw [lastK, if_pos c]
      rw [e] at h ⊢
      have := lastK_kind l n h
      exact ⟨this.1, by omega⟩
    · have e : lastK l (n + 1) = (n : Int) := by rw [lastK, if_neg c]
      rw [e, Int.toNat_natCast]
      exact ⟨c, by omega⟩
theorem lastOf_kind {l : List (List Int)} (h : 2 ≤ lastOf l) : ¬ (l.getD (lastOf l).toNat []).getD 0 0 = 0 ∧ (lastOf l).toNat < l.length := by
  unfold lastOf at h ⊢
  by_cases c : lastK l l.length < 1
  · rw [if_pos c] at h; omega
  · rw [if_neg c] at h ⊢
    exact lastK_kind l l.length h
theorem lowest_is (l : List (List Int)) : ∀ (d n : Nat), (lowest l d n = 0 ∧ n + d ≤ l.length + (if d = 0 then n else 0)) ∨ ∃ q : Nat, lowest l d n = (q : Int) ∧ n ≤ q ∧ q < n + d ∧ (∀ m, n ≤ m → m < q → ¬ (l.getD m []).getD 0 0 = 0) ∧ (l.length ≤ q ∨ (q < l.length ∧ (l.getD q []).getD 0 0 = 0))
  | 0, n => .inl ⟨rfl, by simp⟩
  | d + 1, n => by
    by_cases c : l.length ≤ n
    · exact .inr ⟨n, by rw [lowest, if_pos c], Nat.le_refl _, by omega, fun m h1 h2 => by omega, .inl c⟩
    by_cases c2 : (l.getD n []).getD 0 0 = 0
    · exact .inr ⟨n, by rw [lowest, if_neg c, if_pos c2], Nat.le_refl _, by omega, fun m h1 h2 => by omega, .inr ⟨by omega, c2⟩⟩
    have e : lowest l (d + 1) n = lowest l d (n + 1) := by rw [lowest, if_neg c, if_neg c2]
    rw [e]
    rcases lowest_is l d (n + 1) with ⟨h1, h2⟩ | ⟨q, h1, h2, h3, h4, h5⟩
    · refine .inl ⟨h1, ?_⟩
      rw [if_neg (by omega)]
      split at h2 <;> omega
    · refine .inr ⟨q, h1, by omega, by omega, fun m hm1 hm2 => ?_, h5⟩
      by_cases hmn : m = n
      · subst hmn; exact c2
      · exact h4 m (by omega) hm2
theorem table_ok (l : List (List Int)) (hl : l.length ≤ 1100) (hw : ∀ x ∈ l, x.length = 24) : TF l := by
  have hlow := lowest_is l 999 2
  have hk1 : (∀ n : Nat, 2 ≤ n → n < l.length → (n : Int) < lowest l 999 2 → ¬ (l.getD n []).getD 0 0 = 0) := by
    intro n h2 hn hk
    rcases hlow with ⟨h, _⟩ | ⟨q, h, _, _, h4, _⟩
    · omega
    · exact h4 n h2 (by omega)
  have hk2 : ((lowest l 999 2 = 0) ∨ (∃ q : Nat, lowest l 999 2 = (q : Int) ∧ 2 ≤ q ∧ q ≤ 1000 ∧ l.length ≤ q) ∨ (∃ q : Nat, lowest l 999 2 = (q : Int) ∧ 2 ≤ q ∧ q ≤ 1000 ∧ q < l.length ∧ (l.getD q []).getD 0 0 = 0)) := by
    rcases hlow with ⟨h, _⟩ | ⟨q, h, h2, h3, _, h5 | ⟨h5, h6⟩⟩
    · exact .inl h
    · exact .inr (.inl ⟨q, h, h2, by omega, h5⟩)
    · exact .inr (.inr ⟨q, h, h2, by omega, h5, h6⟩)
  by_cases hg : tableGood l = true
  case neg =>
    refine ⟨[], 7, lowest l 999 2, [], by rw [impl_EncodeTable.f, if_neg hg], by rw [spec_EncodeTable.f, if_neg hg], rfl, hk1, hk2, .inl ⟨rfl, ?_⟩⟩
    rcases hlow with ⟨h, h'⟩ | ⟨q, h, h2, _⟩
    · rw [if_neg (by omega)] at h'; exact .inr (by omega)
    · exact .inl (by omega)
  have hg' := hg
  unfold tableGood at hg'
  simp only [Bool.and_eq_true] at hg'
  obtain ⟨ha, hf, hL⟩ := hg'
  have hL2 := of_decide_eq_true hL
  have hL1 := lastOf_pos l
  obtain ⟨n1, hn1⟩ : ∃ n1, n1 = (lastOf l).toNat + 1 := ⟨_, rfl⟩
  have hnr : 2 ≤ n1 ∧ n1 ≤ 1001 := by omega
  have hB : tableBytes l = tableBytesTo l n1 := by rw [hn1]; rfl
  have hBl := tableBytesTo_length hw n1
  have hdec := fun j hj => decAt_to hw ha j n1 hj
  have hdiv : (tableBytesTo l n1).length / 128 = n1 := by rw [hBl]; omega
  obtain ⟨R, hR⟩ : ∃ R, R = rowsTo (tableBytesTo l n1) n1 := ⟨_, rfl⟩
  have hRl : R.length = n1 := by rw [hR, rowsTo_length]
  have hRg : ∀ j, j < n1 → R.getD j [] = atI l j := fun j hj => by rw [hR, rowsTo_getD _ _ _ hj, hdec j hj]
  have hRw : ∀ x ∈ R, x.length = 24 := by rw [hR]; exact rowsTo_wide _ _
  have hRa : allGood R = true := by rw [hR]; exact rows_good (fun j hj => by rw [hdec j hj])
  have h0 : atI l 0 = zInode := by
    unfold atI
    split
    · rename_i h
      unfold firstZero at hf
      rw [decide_eq_false (show ¬ l.length = 0 by omega), Bool.false_or] at hf
      exact of_decide_eq_true hf
    · rfl
  have hR0 : (R.getD 0 []).getD 0 0 = 0 := by rw [hRg 0 (by omega), h0]; rfl
  have hlast : n1 ≤ 2 ∨ ¬ (R.getD (n1 - 1) []).getD 0 0 = 0 := by
    by_cases c : 2 ≤ lastOf l
    · obtain ⟨k1, k2⟩ := lastOf_kind c
      right
      rw [hRg (n1 - 1) (by omega), show n1 - 1 = (lastOf l).toNat by omega, atI, if_pos k2]
      exact k1
    · left; omega
  have hend : tabEnd R = true := by
    unfold tabEnd
    rw [decide_eq_true hR0, Bool.true_and, hRl]
    rcases hlast with h | h
    · rw [decide_eq_true h]; rfl
    · rw [decide_eq_false h]; simp
  have hsz : sizeOk (tableBytesTo l n1).length = true := by
    unfold sizeOk
    rw [hBl, decide_eq_true (by omega), decide_eq_true (by omega), decide_eq_true (by omega)]
    rfl
  have hdt : decTable (tableBytesTo l n1) = (R, 0) := by
    unfold decTable
    rw [hdiv, hsz, chunksOk_of (fun j hj => by rw [hdec j hj]), ← hR, hend]
    rfl
  have hlR : lastOf R + 1 = (R.length : Int) := (rows_last R (by omega)).2 (by rw [hRl]; exact hlast)
  have hRB : tableBytes R = tableBytesTo l n1 := by
    unfold tableBytes
    rw [show (lastOf R).toNat + 1 = n1 by omega]
    unfold tableBytesTo
    congr 1
    apply List.map_congr_left
    intro j hj
    have hj' := List.mem_range.1 hj
    rw [show atI R j = atI l j by rw [atI, if_pos (by omega), hRg j hj']]
  have hRt : tableGood R = true := by
    unfold tableGood
    rw [hRa, rows_first (by omega) hRa, decide_eq_true hR0, decide_eq_true (rows_small R (by omega))]
    rfl
  have hbyt : ∀ x ∈ tableBytesTo l n1, 0 ≤ x ∧ x ≤ 255 := by
    intro x hx
    unfold tableBytesTo at hx
    rw [List.mem_flatten] at hx
    obtain ⟨y, hy, hxy⟩ := hx
    obtain ⟨j, _, rfl⟩ := List.mem_map.1 hy
    exact inodeBytes_byt _ x hxy
  refine ⟨tableBytesTo l n1, 0, lowest l 999 2, R, by rw [impl_EncodeTable.f, if_pos hg, hB], by rw [spec_EncodeTable.f, if_pos hg, hB], rfl, hk1, hk2, .inr ⟨rfl, ?_, ?_, ?_, ?_, by omega, by omega, ?_⟩⟩
  · unfold laws_cp.f
    rw [Option.bind_some, if_pos (by simp; omega), List.nil_append]
  · unfold impl_DecodeTable.f
    rw [if_pos hbyt, hdt]
  · rw [impl_EncodeTable.f, if_pos hRt, hRB]
  · unfold laws_smBytes.f
    rw [beq_self_eq_true]
  · intro n hn
    rw [hRg n (by omega), atI]
    refine ⟨fun h => by rw [if_pos h], fun h => by rw [if_neg (by omega)]⟩
end Go.Proofs.Ytkghgjehjchajaa.PureTable
