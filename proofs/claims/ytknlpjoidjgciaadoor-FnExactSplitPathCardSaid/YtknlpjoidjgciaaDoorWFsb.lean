/- The bytes of a root record. No condition. -/
import Derived.Test.YtknlpjoidjgciaaDoorWFsi
import Derived.Test.YtknlpjoidjgciaaDoorWDec3
namespace Go.Proofs.YtknlpjoidjgciaaDoorW.PrintFsb
open Go.RowKit Go.Proofs.YtknlpjoidjgciaaDoorW.PrintWords Go.Proofs.YtknlpjoidjgciaaDoorW.PrintHand Go.Proofs.YtknlpjoidjgciaaDoorW.PrintHx Go.Proofs.YtknlpjoidjgciaaDoorW.PrintLe Go.Proofs.YtknlpjoidjgciaaDoorW.PrintIno Go.Proofs.YtknlpjoidjgciaaDoorW.PrintDec Go.Proofs.YtknlpjoidjgciaaDoorW.PrintFsi
set_option linter.unusedVariables false
set_option linter.unusedSimpArgs false
def magicF : List Int := [114, 111, 111, 116, 114, 101, 99, 49]
def fsParts (a : List Int) : List (List Int) := [magicF, leB (a.getD 0 0) 8, leB (a.getD 1 0) 4, leB (a.getD 2 0) 4, leB (a.getD 3 0) 8, leB (a.getD 4 0) 8, leB (a.getD 5 0) 4, leB (a.getD 6 0) 4, rootBytes (fsI a), rootBytes (fsM a)]
def fsHead (a : List Int) : List Int := (fsParts a).flatten
def fsBody (a : List Int) : List Int := fsHead a ++ flat4 (fsS a)
def filledB (l : List Int) : List Int := l ++ List.replicate (508 - l.length) 0
def fsFill (a : List Int) : List Int := fsBody a ++ List.replicate 208 0
theorem fsI_length {a : List Int} (h : a.length = 68) : (fsI a).length = 15 := part_len h (by decide)
theorem fsM_length {a : List Int} (h : a.length = 68) : (fsM a).length = 15 := part_len h (by decide)
theorem fsS_length {a : List Int} (h : a.length = 68) : (fsS a).length = 31 := part_len h (by decide)
theorem fsHead_length {a : List Int} (h : a.length = 68) : (fsHead a).length = 176 := by
  simp [fsHead, fsParts, magicF, leB_length, rootBytes_length (fsI_length h), rootBytes_length (fsM_length h)]
theorem fsBody_length {a : List Int} (h : a.length = 68) : (fsBody a).length = 300 := by
  rw [fsBody, List.length_append, fsHead_length h, flat4_length, fsS_length h]
theorem fsFill_length {a : List Int} (h : a.length = 68) : (fsFill a).length = 508 := by
  rw [fsFill, List.length_append, fsBody_length h, List.length_replicate]
theorem byt_append {a b : List Int} (ha : Byt a) (hb : Byt b) : Byt (a ++ b) := fun x hx => by
  rcases List.mem_append.1 hx with h | h
  · exact ha x h
  · exact hb x h
theorem byt_zeros (n : Nat) : Byt (List.replicate n 0) := fun x hx => by
  rw [(List.mem_replicate.1 hx).2]
  omega
theorem byt_flatten {l : List (List Int)} (h : ∀ x ∈ l, Byt x) : Byt l.flatten := fun x hx => by
  obtain ⟨y, hy, hxy⟩ := List.mem_flatten.1 hx
  exact h y hy x hxy
theorem fsHead_byt (a : List Int) : Byt (fsHead a) := byt_flatten (fun x hx => by
  unfold fsParts at hx
  simp only [List.mem_cons, List.not_mem_nil, or_false] at hx
  rcases hx with rfl | rfl | rfl | rfl | rfl | rfl | rfl | rfl | rfl | rfl
  · intro y hy
    unfold magicF at hy
    simp only [List.mem_cons, List.not_mem_nil, or_false] at hy
    omega
  · exact leB_byt _ _
  · exact leB_byt _ _
  · exact leB_byt _ _
  · exact leB_byt _ _
  · exact leB_byt _ _
  · exact leB_byt _ _
  · exact leB_byt _ _
  · exact rootBytes_byt _
  · exact rootBytes_byt _)
theorem fsFill_byt (a : List Int) : Byt (fsFill a) := byt_append (byt_append (fsHead_byt a) (flat4_byt _)) (byt_zeros _)
/-- What a right record's fields are. -/
theorem fsGood_get {a : List Int} (h : fsGood a = true) : (0 ≤ a.getD 0 0 ∧ a.getD 0 0 ≤ 1099511627776) ∧ (0 ≤ a.getD 1 0 ∧ a.getD 1 0 ≤ 2048) ∧ (0 ≤ a.getD 2 0 ∧ a.getD 2 0 ≤ 2048) ∧ (0 ≤ a.getD 3 0 ∧ a.getD 3 0 ≤ 1099511627776) ∧ (0 ≤ a.getD 4 0 ∧ a.getD 4 0 ≤ 1099511627776) ∧ (0 ≤ a.getD 5 0 ∧ a.getD 5 0 ≤ 1000) ∧ (0 ≤ a.getD 6 0 ∧ a.getD 6 0 ≤ 65536) ∧ rootGood (fsI a) = true ∧ rootGood (fsM a) = true ∧ (∀ x ∈ fsS a, 0 ≤ x ∧ x < 2048) := by
  unfold fsGood fsTop at h
  simp only [Bool.and_eq_true, Bool.or_eq_true, decide_eq_true_eq] at h
  obtain ⟨h0, h3, h4, h1, h2, h5, h6, hi, hm, _, _, ha⟩ := h
  have q0 := rng_of h0
  have q1 := rng_of h1
  have q2 := rng_of h2
  have q3 := rng_of h3
  have q4 := rng_of h4
  have q5 := rng_of h5
  have q6 : 0 ≤ a.getD 6 0 ∧ a.getD 6 0 ≤ 65536 := by
    rcases h6 with h6 | h6
    · omega
    · have := rng_of h6; omega
  refine ⟨by omega, by omega, by omega, by omega, by omega, by omega, q6, hi, hm, fun x hx => ?_⟩
  have hp := List.all_eq_true.1 ha x (by unfold fsPtrs; exact List.mem_append_right _ hx)
  unfold fsPtr at hp
  rw [Bool.and_eq_true] at hp
  exact ptrOk_range hp.1
theorem fsS_get {a : List Int} (h : fsGood a = true) (hl : a.length = 68) (j : Nat) (hj : j < 31) : 0 ≤ (fsS a).getD j 0 ∧ (fsS a).getD j 0 < 2048 := by
  have hjl : j < (fsS a).length := by rw [fsS_length hl]; exact hj
  rw [List.getD_eq_getElem?_getD, List.getElem?_eq_getElem hjl]
  exact (fsGood_get h).2.2.2.2.2.2.2.2.2 _ (List.getElem_mem hjl)
/-- A piece laid behind what there is, over zeros. -/
theorem put_end (A X : List Int) (p sz m at_ : Nat) (hA : A.length = p) (hX : X.length = sz) (hm : sz ≤ m) (ha : at_ = p) : (A ++ List.replicate m 0).take at_ ++ X ++ (A ++ List.replicate m 0).drop (at_ + sz) = (A ++ X) ++ List.replicate (m - sz) 0 := by
  have h := put_zeros A X p 0 m at_ sz hA hX (by omega) (by omega)
  rw [h]
  simp
theorem fs_puts {a Q0 Q1 Q2 Q3 Q4 Q5 Q6 Q7 Q8 Q9 Q10 : List Int} (h : a.length = 68) (h0 : Q0 = List.replicate 512 0) (h1 : Q1 = Q0.take 0 ++ magicF ++ Q0.drop (0 + 8)) (h2 : Q2 = Q1.take (0 + 8) ++ leB (a.getD 0 0) 8 ++ Q1.drop (0 + 8 + 8)) (h3 : Q3 = Q2.take (0 + 16) ++ leB (a.getD 1 0) 4 ++ Q2.drop (0 + 16 + 4)) (h4 : Q4 = Q3.take (0 + 20) ++ leB (a.getD 2 0) 4 ++ Q3.drop (0 + 20 + 4))
    (h5 : Q5 = Q4.take (0 + 24) ++ leB (a.getD 3 0) 8 ++ Q4.drop (0 + 24 + 8)) (h6 : Q6 = Q5.take (0 + 32) ++ leB (a.getD 4 0) 8 ++ Q5.drop (0 + 32 + 8)) (h7 : Q7 = Q6.take (0 + 40) ++ leB (a.getD 5 0) 4 ++ Q6.drop (0 + 40 + 4)) (h8 : Q8 = Q7.take (0 + 44) ++ leB (a.getD 6 0) 4 ++ Q7.drop (0 + 44 + 4)) (h9 : Q9 = Q8.take 48 ++ rootBytes (fsI a) ++ Q8.drop (48 + 64)) (h10 : Q10 = Q9.take 112 ++ rootBytes (fsM a) ++ Q9.drop (112 + 64)) : Q10 = fsHead a ++ List.replicate 336 0 := by
  have ri := rootBytes_length (fsI_length h)
  have rm := rootBytes_length (fsM_length h)
  have e1 : Q1 = magicF ++ List.replicate 504 0 := by
    rw [h1, h0]
    exact put_end [] magicF 0 8 512 0 rfl rfl (by decide) rfl
  have e2 : Q2 = (magicF ++ leB (a.getD 0 0) 8) ++ List.replicate 496 0 := by
    rw [h2, e1]
    exact put_end _ _ 8 8 504 (0 + 8) rfl (leB_length _ _) (by decide) (by decide)
  have e3 : Q3 = ((magicF ++ leB (a.getD 0 0) 8) ++ leB (a.getD 1 0) 4) ++ List.replicate 492 0 := by
    rw [h3, e2]
    exact put_end _ _ 16 4 496 (0 + 16) (by simp [magicF, leB_length]) (leB_length _ _) (by decide) (by decide)
  have e4 : Q4 = (((magicF ++ leB (a.getD 0 0) 8) ++ leB (a.getD 1 0) 4) ++ leB (a.getD 2 0) 4) ++ List.replicate 488 0 := by
    rw [h4, e3]
    exact put_end _ _ 20 4 492 (0 + 20) (by simp [magicF, leB_length]) (leB_length _ _) (by decide) (by decide)
  have e5 : Q5 = ((((magicF ++ leB (a.getD 0 0) 8) ++ leB (a.getD 1 0) 4) ++ leB (a.getD 2 0) 4) ++ leB (a.getD 3 0) 8) ++ List.replicate 480 0 := by
    rw [h5, e4]
    exact put_end _ _ 24 8 488 (0 + 24) (by simp [magicF, leB_length]) (leB_length _ _) (by decide) (by decide)
  have e6 : Q6 = (((((magicF ++ leB (a.getD 0 0) 8) ++ leB (a.getD 1 0) 4) ++ leB (a.getD 2 0) 4) ++ leB (a.getD 3 0) 8) ++ leB (a.getD 4 0) 8) ++ List.replicate 472 0 := by
    rw [h6, e5]
    exact put_end _ _ 32 8 480 (0 + 32) (by simp [magicF, leB_length]) (leB_length _ _) (by decide) (by decide)
  have e7 : Q7 = ((((((magicF ++ leB (a.getD 0 0) 8) ++ leB (a.getD 1 0) 4) ++ leB (a.getD 2 0) 4) ++ leB (a.getD 3 0) 8) ++ leB (a.getD 4 0) 8) ++ leB (a.getD 5 0) 4) ++ List.replicate 468 0 := by
    rw [h7, e6]
    exact put_end _ _ 40 4 472 (0 + 40) (by simp [magicF, leB_length]) (leB_length _ _) (by decide) (by decide)
  have e8 : Q8 = (((((((magicF ++ leB (a.getD 0 0) 8) ++ leB (a.getD 1 0) 4) ++ leB (a.getD 2 0) 4) ++ leB (a.getD 3 0) 8) ++ leB (a.getD 4 0) 8) ++ leB (a.getD 5 0) 4) ++ leB (a.getD 6 0) 4) ++ List.replicate 464 0 := by
    rw [h8, e7]
    exact put_end _ _ 44 4 468 (0 + 44) (by simp [magicF, leB_length]) (leB_length _ _) (by decide) (by decide)
  have e9 : Q9 = ((((((((magicF ++ leB (a.getD 0 0) 8) ++ leB (a.getD 1 0) 4) ++ leB (a.getD 2 0) 4) ++ leB (a.getD 3 0) 8) ++ leB (a.getD 4 0) 8) ++ leB (a.getD 5 0) 4) ++ leB (a.getD 6 0) 4) ++ rootBytes (fsI a)) ++ List.replicate 400 0 := by
    rw [h9, e8]
    exact put_end _ _ 48 64 464 48 (by simp [magicF, leB_length]) ri (by decide) (by decide)
  have e10 : Q10 = (((((((((magicF ++ leB (a.getD 0 0) 8) ++ leB (a.getD 1 0) 4) ++ leB (a.getD 2 0) 4) ++ leB (a.getD 3 0) 8) ++ leB (a.getD 4 0) 8) ++ leB (a.getD 5 0) 4) ++ leB (a.getD 6 0) 4) ++ rootBytes (fsI a)) ++ rootBytes (fsM a)) ++ List.replicate 336 0 := by
    rw [h10, e9]
    exact put_end _ _ 112 64 400 112 (by simp [magicF, leB_length, ri]) rm (by decide) (by decide)
  rw [e10]
  unfold fsHead fsParts
  simp only [List.flatten_cons, List.flatten_nil, List.append_nil, List.append_assoc]
/-- One pointer more. -/
theorem fs_snap (H xs : List Int) (j : Nat) (hH : H.length = 176) (hx : xs.length = 31) (hj : j < 31) :
    ((H ++ flat4 (xs.take j)) ++ List.replicate (336 - 4 * j) 0).take (0 + (176 + 4 * j)) ++ leB (xs.getD j 0) 4 ++ ((H ++ flat4 (xs.take j)) ++ List.replicate (336 - 4 * j) 0).drop (0 + (176 + 4 * j) + 4) = (H ++ flat4 (xs.take (j + 1))) ++ List.replicate (336 - 4 * (j + 1)) 0 := by
  have hl : (H ++ flat4 (xs.take j)).length = 176 + 4 * j := by rw [List.length_append, hH, flat4_length, List.length_take, hx, Nat.min_eq_left (by omega)]
  rw [put_end _ _ (176 + 4 * j) 4 (336 - 4 * j) (0 + (176 + 4 * j)) hl (leB_length _ _) (by omega) (by omega), flat4_take xs j (by omega), List.append_assoc H, show 336 - 4 * j - 4 = 336 - 4 * (j + 1) by omega]
end Go.Proofs.YtknlpjoidjgciaaDoorW.PrintFsb
