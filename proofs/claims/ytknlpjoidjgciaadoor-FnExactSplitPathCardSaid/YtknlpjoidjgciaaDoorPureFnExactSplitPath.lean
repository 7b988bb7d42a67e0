/- The law FnExactSplitPath answers true whatever it is given: the pieces between the slashes, those that hold something, are what the spec cuts byte by byte; no condition. -/
import Derived.Test.YtknlpjoidjgciaaDoorPFnExactSplitPathx1
import Derived.Test.YtknlpjoidjgciaaDoorWSnd
import Derived.Lib.SplitLaws
namespace Go.Proofs.YtknlpjoidjgciaaDoor.Pure
open Go.RowKit Go.Proofs.YtknlpjoidjgciaaDoor.PFnExactSplitPath Go.Proofs.YtknlpjoidjgciaaDoorW.PrintWords Go.Proofs.YtknlpjoidjgciaaDoorW.PrintLast
set_option linter.unusedVariables false

theorem w64 {x : Int} (h0 : -9223372036854775808 ≤ x) (h1 : x ≤ 9223372036854775807) : wrap64 x = x := by unfold wrap64; omega
theorem w64n {n : Nat} (h : n < 9223372036854775807) : wrap64 ((n : Int) + 1) = ((n + 1 : Nat) : Int) := by unfold wrap64; omega
theorem sucK {n k : Nat} (h : n < k) : ∃ m, k = m + 1 := ⟨k - 1, by omega⟩
theorem rdN (xs : List Int) (i : Nat) : rd xs (i : Int) = xs.getD i 0 := by simp [rd]
theorem rd_some {xs : List Int} {i : Nat} (h : i < xs.length) : rd xs (i : Int) = xs[i] := by rw [rdN, List.getD_eq_getElem?_getD, List.getElem?_eq_getElem h]; rfl

theorem bdl (x : ByteArray) : x.toList = x.data.toList := by rw [ByteArray.toList_eq]
theorem bext {x y : ByteArray} (h : x.data.toList = y.data.toList) : x = y := by
  cases x; cases y
  simp only [ByteArray.mk.injEq]
  exact Array.toList_inj.1 h
theorem rdS {xs : List ByteArray} {i : Nat} (h : i < xs.length) : rdOf ByteArray.empty xs (i : Int) = xs[i] := by
  simp [rdOf, List.getD_eq_getElem?_getD, List.getElem?_eq_getElem h]
theorem eqS_l0 (x0 : List ByteArray) (hn : x0.length < 9223372036854775807) : ∀ (d i k : Nat), i + d = x0.length → d < k → laws_eqStringS.l0 k x0 x0 (i : Int) = some true
  | 0, i, k, h1, h3 => by
    obtain ⟨k, rfl⟩ := sucK h3
    simp only [laws_eqStringS.l0]
    rw [if_neg (by omega)]
  | d + 1, i, k, h1, h3 => by
    obtain ⟨k, rfl⟩ := sucK h3
    simp only [laws_eqStringS.l0]
    rw [if_pos (by omega), if_pos (by omega), if_pos (by omega), if_pos trivial, w64n (by omega)]
    exact eqS_l0 x0 hn d (i + 1) k (by omega) (by omega)
theorem eqS_f (a : List ByteArray) (k : Nat) (hn : a.length ≤ 1048576) (hk : a.length < k) : laws_eqStringS.f k a a = some true := by
  unfold laws_eqStringS.f
  rw [if_pos rfl]
  exact eqS_l0 a (by omega) a.length 0 k (by omega) hk
theorem mtx_l0 : ∀ (d k : Nat) (m : Nat) (x : ByteArray), m < 2 ^ d → d < k → d ≤ 60 → x.size + d < 1000 → ∃ t, laws_markText.l0 k (m : Int) x = some t
  | 0, k, m, x, h1, h2, h3, h4 => by
    obtain ⟨k, rfl⟩ := sucK h2
    simp only [laws_markText.l0]
    rw [if_neg (by omega), if_pos (by omega)]
    exact ⟨_, rfl⟩
  | d + 1, k, m, x, h1, h2, h3, h4 => by
    obtain ⟨k, rfl⟩ := sucK h2
    simp only [laws_markText.l0]
    by_cases h : (m : Int) > 0
    · have e : wrap64 (Int.tdiv (m : Int) 10) = ((m / 10 : Nat) : Int) := by
        have h5 : (2 : Nat) ^ (d + 1) ≤ 2 ^ 60 := Nat.pow_le_pow_right (by omega) h3
        rw [show Int.tdiv (m : Int) 10 = ((m / 10 : Nat) : Int) from rfl]
        unfold wrap64
        omega
      have h6 : m / 10 < 2 ^ d := by have : 2 ^ (d + 1) = 2 * 2 ^ d := by rw [Nat.pow_succ]; omega
                                     omega
      have h7 : ∀ v : Int, (strOfNums [v]).size = 1 := fun v => by rw [Go.Proofs.YtknlpjoidjgciaaDoorW.PrintSnd.strOf_size]; rfl
      rw [if_pos h]
      simp only [Option.bind_some]
      rw [if_pos (by rw [h7]; omega), e]
      exact mtx_l0 d k (m / 10) _ h6 (by omega) (by omega) (by rw [ByteArray.size_append, h7]; omega)
    · rw [if_neg h, if_pos (by omega)]
      exact ⟨_, rfl⟩
theorem mtx_f (m : Nat) (h : m < 2 ^ 60) : ∃ t, laws_markText.f 61 (m : Int) = some t := by
  unfold laws_markText.f
  split
  · exact ⟨_, rfl⟩
  · exact mtx_l0 60 61 m _ h (by omega) (by omega) (by decide)
def mT (m : Nat) : ByteArray := (laws_markText.f 61 (m : Int)).getD ByteArray.empty
theorem mT_f (m k : Nat) (h : m < 2 ^ 60) (hk : 61 ≤ k) : laws_markText.f k (m : Int) = some (mT m) := by
  obtain ⟨t, ht⟩ := mtx_f m h
  have e : mT m = t := by unfold mT; rw [ht]; rfl
  rw [e]
  obtain ⟨j, rfl⟩ : ∃ j, k = 61 + j := ⟨k - 61, by omega⟩
  clear hk e
  induction j with
  | zero => exact ht
  | succ j ih => exact laws_markText.mono _ _ _ ih
theorem heldS_l0 (n m0 : Nat) (x0 : List ByteArray) (hx : x0 = (List.range' m0 n).map mT) : ∀ (d i k : Nat), i + d = n → d + 61 < k → m0 + n < 1099511627776 → laws_heldStringS.l0 k x0 ((m0 + i : Nat) : Int) (i : Int) = some ((m0 + n : Nat) : Int)
  | 0, i, k, h1, h3, h4 => by
    obtain ⟨k, rfl⟩ := sucK h3
    have hl : x0.length = n := by rw [hx]; simp
    simp only [laws_heldStringS.l0]
    rw [if_neg (by omega), show m0 + i = m0 + n by omega]
  | d + 1, i, k, h1, h3, h4 => by
    obtain ⟨k, rfl⟩ := sucK h3
    have hl : x0.length = n := by rw [hx]; simp
    have hi : i < x0.length := by omega
    have hv : rdOf ByteArray.empty x0 (i : Int) = mT (m0 + i) := by
      rw [rdS hi]
      simp only [hx, List.getElem_map, List.getElem_range', Nat.one_mul]
    simp only [laws_heldStringS.l0]
    rw [if_pos (by omega), if_pos (by omega), mT_f (m0 + i) k (by omega) (by omega)]
    simp only [Option.bind_some]
    rw [if_pos (by rw [hv]), w64n (by omega), w64n (by omega)]
    exact heldS_l0 n m0 x0 hx d (i + 1) k (by omega) (by omega) h4
theorem heldS_f (n m k : Nat) (hn : n ≤ 1048576) (hm : m ≤ 1048576) (hk : n + 61 < k) : laws_heldStringS.f k ((List.range' m n).map mT) (m : Int) = some ((m + n : Nat) : Int) := by
  unfold laws_heldStringS.f
  exact heldS_l0 n m _ rfl n 0 k (by omega) hk (by omega)
theorem markS_l0 : ∀ (d i k : Nat) (x0 : List ByteArray) (m : Nat), i + d = x0.length → d + 61 < k → m + d < 1099511627776 → i + d < 1099511627776 → laws_markStringS.l0 k x0 (m : Int) (i : Int) = some (((m + d : Nat) : Int), x0.take i ++ (List.range' m d).map mT)
  | 0, i, k, x0, m, h1, h3, h4, h5 => by
    obtain ⟨k, rfl⟩ := sucK h3
    simp only [laws_markStringS.l0]
    rw [if_neg (by omega), List.take_of_length_le (by omega)]
    simp
  | d + 1, i, k, x0, m, h1, h3, h4, h5 => by
    obtain ⟨k, rfl⟩ := sucK h3
    simp only [laws_markStringS.l0]
    rw [if_pos (by omega), mT_f m k (by omega) (by omega)]
    simp only [Option.bind_some]
    rw [if_pos (by omega), w64n (by omega), w64n (by omega), markS_l0 d (i + 1) k _ (m + 1) (by simpa using (by omega)) (by omega) (by omega) (by omega)]
    rw [show ((i : Int)).toNat = i from by omega]
    congr 2
    · omega
    · rw [List.range'_succ, List.map_cons, List.take_succ_eq_append_getElem (by simpa using (by omega)), List.getElem_set_self, List.take_set_of_le (Nat.le_refl i), List.append_assoc]
      rfl
theorem markS_f (l : List ByteArray) (m k : Nat) (hn : l.length ≤ 1048576) (hm : m ≤ 1048576) (hk : l.length + 61 < k) : laws_markStringS.f k l (m : Int) = some (((m + l.length : Nat) : Int), (List.range' m l.length).map mT) := by
  unfold laws_markStringS.f
  have h := markS_l0 l.length 0 k l m (by omega) hk (by omega) (by omega)
  rw [List.take_zero, List.nil_append] at h
  exact h
open Go.Proofs.YtknlpjoidjgciaaDoorW
/-- A list cut at the slashes. -/
def segs : List UInt8 → List (List UInt8)
  | [] => [[]]
  | b :: l => if b = 47 then [] :: segs l else match segs l with
    | [] => [[b]]
    | h :: t => (b :: h) :: t
theorem segs_ne : ∀ l, segs l ≠ []
  | [] => by simp [segs]
  | b :: l => by
    rw [segs]
    split
    · simp
    · split <;> simp
theorem splitK_segs : ∀ l : List UInt8, Lib.splitK [47] 0 (Lib.count l [47]) l = segs l
  | [] => by rw [Lib.count_miss (by simp [Lib.index])]; rfl
  | b :: l => by
    have ih := splitK_segs l
    by_cases h : b = 47
    · subst h
      rw [Lib.count_cons_eq, Nat.add_comm, Lib.splitK]
      have hix : Lib.index ((47 : UInt8) :: l) [47] = 0 := by rw [Lib.index]; simp [List.isPrefixOf]
      rw [hix, if_neg (by decide), segs, if_pos rfl, ← ih]
      rfl
    · rw [Lib.count_cons_ne b 47 l h, segs, if_neg h]
      have hp : ([47] : List UInt8).isPrefixOf (b :: l) = false := by simp [List.isPrefixOf, Ne.symm h]
      have hix : Lib.index (b :: l) [47] = if Lib.index l [47] == -1 then -1 else Lib.index l [47] + 1 := by rw [Lib.index, hp]; simp
      by_cases hm : Lib.index l [47] = -1
      · rw [Lib.count_miss hm] at ih ⊢
        rw [← ih]
        rfl
      · have hge := Lib.index_ge l [47]
        obtain ⟨j, hj⟩ : ∃ j : Nat, Lib.index l [47] = j := ⟨(Lib.index l [47]).toNat, by omega⟩
        rw [Lib.count_hit (by simp) hj, Nat.add_comm] at ih ⊢
        rw [Lib.splitK, hj, if_neg (by simp)] at ih
        have hix' : Lib.index (b :: l) [47] = ((j + 1 : Nat) : Int) := by rw [hix, if_neg (fun e => hm (beq_iff_eq.1 e)), hj]; omega
        rw [Lib.splitK, hix', if_neg (by rw [beq_iff_eq]; omega), ← ih]
        simp only [List.length_cons, List.length_nil]
        have e1 : ((j : Int)).toNat = j := by omega
        have e2 : (((j + 1 : Nat) : Int)).toNat = j + 1 := by omega
        rw [e1, e2]
        simp
def mkB (l : List UInt8) : ByteArray := ⟨l.toArray⟩
theorem mkB_data (x : ByteArray) : mkB x.data.toList = x := bext (by simp [mkB])
theorem partsP_segs (s : ByteArray) : partsP s = (segs s.data.toList).map mkB := by
  have h := Lib.splitB_data sepB 0 (Lib.countB s sepB) s
  have h2 := congrArg (List.map mkB) h
  rw [List.map_map, show (mkB ∘ fun x : ByteArray => x.data.toList) = id from funext mkB_data, List.map_id] at h2
  unfold partsP
  rw [h2]
  congr 1
  exact splitK_segs s.data.toList
def neL (l : List UInt8) : Bool := !l.isEmpty
def keptL (l : List UInt8) : List (List UInt8) := (segs l).filter neL
theorem keptP_segs (s : ByteArray) : keptP s = (keptL s.data.toList).map mkB := by
  unfold keptP keptL
  rw [partsP_segs, List.filter_map]
  congr 1
  refine List.filter_congr fun x _ => ?_
  simp [neL, emptyP, mkB, bdl]
/-- What the spec's loop has still to give, when c is what is under way. -/
def glue (c : List UInt8) : List (List UInt8) → List (List UInt8)
  | [] => [c]
  | h :: t => (c ++ h) :: t
theorem bt_byte (s : ByteArray) (i : Nat) (h : i < s.data.toList.length) : bt s (i : Int) = ((s.data.toList[i]).toNat : Int) := by
  have h2 : i < s.size := by rw [Lib.size_eq]; exact h
  have h3 := bt_at s (i : Int) h2
  rw [← h3]
  rfl
theorem extract_one (s : ByteArray) (i : Nat) (h : i < s.data.toList.length) : s.extract i (i + 1) = mkB [s.data.toList[i]] := by
  apply bext
  rw [Lib.extract_data, show i + 1 - i = 1 by omega, List.drop_eq_getElem_cons h]
  rfl
theorem cut_l0 (s : ByteArray) (hs : s.data.toList.length ≤ 512) : ∀ (d i k : Nat) (A : List (List UInt8)) (c : List UInt8), i + d = s.data.toList.length → d < k → A.length ≤ i → c.length ≤ i →
    spec_l07Cut.l0 k s (A.map mkB) (mkB c) (i : Int) = some ((A ++ (glue c (segs (s.data.toList.drop i))).filter neL).map mkB)
  | 0, i, k, A, c, h1, h2, h3, h4 => by
    obtain ⟨k, rfl⟩ := sucK h2
    have hz : s.size = s.data.toList.length := Lib.size_eq s
    simp only [spec_l07Cut.l0]
    rw [if_neg (by omega), List.drop_eq_nil_of_le (by omega)]
    simp only [segs, glue, List.append_nil, bdl, mkB]
    cases c with
    | nil => simp [neL]
    | cons b c => 
      rw [if_neg (by simp), if_pos (by rw [List.length_map]; omega)]
      simp [neL]
      rfl
  | d + 1, i, k, A, c, h1, h2, h3, h4 => by
    obtain ⟨k, rfl⟩ := sucK h2
    have hz : s.size = s.data.toList.length := Lib.size_eq s
    have hi : i < s.data.toList.length := by omega
    simp only [spec_l07Cut.l0]
    rw [if_pos (by omega), if_pos (by omega), bt_byte s i hi, w64n (by omega), List.drop_eq_getElem_cons hi, segs]
    by_cases h : s.data.toList[i] = 47
    · rw [if_pos (by rw [h]; rfl), if_pos h]
      have hc : (mkB c).toList = ([] : List UInt8) ↔ c = [] := by rw [bdl]; simp [mkB]
      by_cases hn : c = []
      · subst hn
        rw [if_pos (hc.2 rfl)]
        have ih := cut_l0 s hs d (i + 1) k A [] (by omega) (by omega) (by omega) (by simp)
        rw [show (⟨#[]⟩ : ByteArray) = mkB [] from rfl, ih]
        congr 3
        have hg : ∀ L : List (List UInt8), L ≠ [] → glue [] L = L := fun L hL => by cases L with
          | nil => exact absurd rfl hL
          | cons _ _ => rfl
        rw [hg _ (segs_ne _)]
        simp [glue, neL]
      · rw [if_neg (fun e => hn (hc.1 e)), if_pos (by rw [List.length_map]; omega)]
        have ih := cut_l0 s hs d (i + 1) k (A ++ [c]) [] (by omega) (by omega) (by simp; omega) (by simp)
        rw [List.map_append] at ih
        rw [show (⟨#[]⟩ : ByteArray) = mkB [] from rfl, show ([mkB c] : List ByteArray) = [c].map mkB from rfl, ih]
        have hg : ∀ L : List (List UInt8), L ≠ [] → glue [] L = L := fun L hL => by cases L with
          | nil => exact absurd rfl hL
          | cons _ _ => rfl
        rw [hg _ (segs_ne _)]
        have hcn : neL c = true := by
          cases c with
          | nil => exact absurd rfl hn
          | cons _ _ => rfl
        simp [glue, hcn]
    · rw [if_neg (fun e => h (UInt8.toNat_inj.1 (show (s.data.toList[i]).toNat = (47 : UInt8).toNat by have h9 : ((47 : UInt8)).toNat = 47 := rfl; omega))), if_neg h, if_pos (by omega), if_pos (by omega)]
      have hx : s.extract ((i : Int)).toNat (((i + 1 : Nat) : Int)).toNat = mkB [s.data.toList[i]] := by
        rw [show ((i : Int)).toNat = i by omega, show (((i + 1 : Nat) : Int)).toNat = i + 1 by omega]
        exact extract_one s i hi
      have hsz : ∀ l, (mkB l).size = l.length := fun l => by simp [mkB, ByteArray.size]
      rw [hx, if_pos (by rw [hsz, hsz]; simp; omega)]
      have ha : mkB c ++ mkB [s.data.toList[i]] = mkB (c ++ [s.data.toList[i]]) := bext (by simp [mkB])
      rw [ha, cut_l0 s hs d (i + 1) k A (c ++ [s.data.toList[i]]) (by omega) (by omega) (by omega) (by simp; omega)]
      congr 3
      cases hq : segs (List.drop (i + 1) s.data.toList) with
      | nil => exact absurd hq (segs_ne _)
      | cons h t => simp [glue]
theorem cut_f (s : ByteArray) (hs : s.data.toList.length ≤ 512) (k : Nat) (hk : 512 < k) : spec_l07Cut.f k s = some (keptP s) := by
  unfold spec_l07Cut.f
  have h := cut_l0 s hs s.data.toList.length 0 k [] [] (by omega) (by omega) (by simp) (by simp)
  rw [show (⟨#[]⟩ : ByteArray) = mkB [] from rfl]
  refine h.trans ?_
  rw [keptP_segs]
  have hg : ∀ L : List (List UInt8), L ≠ [] → glue [] L = L := fun L hL => by cases L with
          | nil => exact absurd rfl hL
          | cons _ _ => rfl
  rw [List.drop_zero, hg _ (segs_ne _)]
  rfl
theorem segs_length : ∀ l, (segs l).length ≤ l.length + 1
  | [] => by simp [segs]
  | b :: l => by
    have ih := segs_length l
    rw [segs]
    split
    · simpa using ih
    · split
      · simp
      · rename_i h t e; rw [e] at ih; simp at ih ⊢; omega
theorem kept_length (s : ByteArray) (hs : s.data.toList.length ≤ 512) : (keptP s).length ≤ 513 := by
  rw [keptP_segs, List.length_map]
  have h1 := segs_length s.data.toList
  have h2 : (keptL s.data.toList).length ≤ (segs s.data.toList).length := List.length_filter_le _ _
  omega
theorem long_l0 (l : List ByteArray) (n : Nat) (hn : n = l.length) (h0 : n < 1099511627776) : ∀ (d i k : Nat), i + d = n → d < k → spec_l07Long.l0 k l (n : Int) (i : Int) = some ((l.drop i).any longP)
  | 0, i, k, h1, h2 => by
    obtain ⟨k, rfl⟩ := sucK h2
    simp only [spec_l07Long.l0]
    rw [if_neg (by omega), List.drop_eq_nil_of_le (by omega)]
    rfl
  | d + 1, i, k, h1, h2 => by
    obtain ⟨k, rfl⟩ := sucK h2
    simp only [spec_l07Long.l0]
    have hi : i < l.length := by omega
    rw [if_pos (by omega), if_pos (by omega), if_pos (by omega), rdS hi, w64n (by omega), long_l0 l n hn h0 d (i + 1) k (by omega) (by omega), List.drop_eq_getElem_cons hi, List.any_cons]
    by_cases h : ((l[i]).size : Int) > 26
    · rw [if_pos h, show longP l[i] = true from decide_eq_true h]
      rfl
    · rw [if_neg h, show longP l[i] = false from decide_eq_false h]
      rfl
theorem long_f (l : List ByteArray) (k : Nat) (h : l.length ≤ 513) (hk : 513 < k) : spec_l07Long.f k l = some (longR l) := by
  unfold spec_l07Long.f longR
  by_cases h4 : (l.length : Int) > 40
  · rw [if_pos h4, decide_eq_true (show (40 : Int) < l.length from h4)]
    rfl
  · rw [if_neg h4, decide_eq_false (show ¬ (40 : Int) < l.length from h4)]
    have := long_l0 l l.length rfl (by omega) l.length 0 k (by omega) (by omega)
    rw [List.drop_zero] at this
    simpa using this
theorem ib_zero : ∀ l : List UInt8, 0 ≤ Lib.indexByte l 0 ↔ 0 ∈ l
  | [] => by simp [Lib.indexByte]
  | b :: l => by
    have ih := ib_zero l
    rw [Lib.indexByte, List.mem_cons]
    by_cases h : b = 0
    · subst h; simp
    · rw [if_neg (by simpa using h)]
      have hg := Lib.indexByte_ge l 0
      by_cases hm : Lib.indexByte l 0 = -1
      · rw [hm] at ih
        rw [hm]
        simp only [beq_self_eq_true, if_true]
        constructor
        · intro x; omega
        · rintro (x | x)
          · exact absurd x.symm h
          · have := ih.2 x; omega
      · rw [if_neg (by simpa using hm)]
        constructor
        · intro x; exact .inr (ih.1 (by omega))
        · intro _; omega
theorem tail_f (s : ByteArray) (hs : s.data.toList.length ≤ 512) (k : Nat) (hk : 513 < k) : ((spec_l07Cut.f k s).bind fun t111 => ((spec_l07Long.f k t111).bind fun t114 => (if t114 = true then (some (([] : List ByteArray), (12 : Int))) else (some (t111, 0))))) = some (if longR (keptP s) = true then ([], 12) else (keptP s, 0)) := by
  rw [cut_f s hs k (by omega)]
  simp only [Option.bind_some]
  rw [long_f _ k (kept_length s hs) hk]
  simp only [Option.bind_some]
  split <;> rfl
theorem sp_l0 (s : ByteArray) (hs : s.data.toList.length ≤ 512) : ∀ (d i k : Nat), i + d = s.data.toList.length → d + 514 < k → spec_SplitPath.l0 k s (i : Int) = some (if 0 ∈ s.data.toList.drop i then ([], 7) else if longR (keptP s) = true then ([], 12) else (keptP s, 0))
  | 0, i, k, h1, h2 => by
    obtain ⟨k, rfl⟩ := sucK h2
    have hz : s.size = s.data.toList.length := Lib.size_eq s
    simp only [spec_SplitPath.l0]
    rw [if_neg (by omega), List.drop_eq_nil_of_le (by omega), tail_f s hs k (by omega), if_neg (show ¬ (0 : UInt8) ∈ [] by simp)]
  | d + 1, i, k, h1, h2 => by
    obtain ⟨k, rfl⟩ := sucK h2
    have hz : s.size = s.data.toList.length := Lib.size_eq s
    have hi : i < s.data.toList.length := by omega
    simp only [spec_SplitPath.l0]
    rw [if_pos (by omega), if_pos (by omega), bt_byte s i hi, w64n (by omega), sp_l0 s hs d (i + 1) k (by omega) (by omega), List.drop_eq_getElem_cons hi]
    by_cases h : s.data.toList[i] = 0
    · rw [if_pos (by rw [h]; rfl), if_pos (by rw [h]; exact List.mem_cons_self)]
    · rw [if_neg (fun e => h (UInt8.toNat_inj.1 (show (s.data.toList[i]).toNat = (0 : UInt8).toNat by have h9 : ((0 : UInt8)).toNat = 0 := rfl; omega)))]
      congr 1
      have : (0 ∈ s.data.toList[i] :: s.data.toList.drop (i + 1)) ↔ 0 ∈ s.data.toList.drop (i + 1) := by
        rw [List.mem_cons]
        exact ⟨fun x => x.resolve_left (fun e => h e.symm), .inr⟩
      simp only [this]
theorem split_f (s : ByteArray) : spec_SplitPath.f 4096 s = some (splitV s) := by
  unfold spec_SplitPath.f splitV
  have hz : s.size = s.data.toList.length := Lib.size_eq s
  by_cases c1 : s.toList = ([] : List UInt8)
  · rw [if_pos c1, if_pos c1]
  rw [if_neg c1, if_neg c1]
  by_cases c2 : (512 : Int) < (s.size : Int)
  · rw [if_pos c2, if_pos c2]
  have hp : 0 < s.size := by
    rcases Nat.eq_zero_or_pos s.size with h | h
    · exact absurd (by rw [bdl]; exact List.eq_nil_of_length_eq_zero (by omega)) c1
    · exact h
  rw [if_neg c2, if_neg c2, if_pos (by omega)]
  by_cases c3 : bt s 0 = 47
  · rw [if_pos c3, if_neg (fun h => h c3)]
    have h := sp_l0 s (by omega) s.data.toList.length 0 4096 (by omega) (by omega)
    refine h.trans ?_
    congr 1
    rw [List.drop_zero]
    by_cases c4 : 0 ∈ s.data.toList
    · rw [if_pos c4, if_pos ((ib_zero _).2 c4)]
    · rw [if_neg c4, if_neg (fun e => c4 ((ib_zero _).1 e))]
  · rw [if_neg c3, if_pos c3]
theorem split_length (s : ByteArray) : (splitV s).1.length ≤ 513 := by
  unfold splitV
  have hz : s.size = s.data.toList.length := Lib.size_eq s
  repeat' split
  all_goals first | simp; done | exact kept_length s (by omega)
theorem FnExactSplitPath : laws_FnExactSplitPath.Pure := by
  intro s hs
  refine ⟨4096, fun hc => ?_⟩
  have hl := split_length s
  refine ⟨(splitV s).1, (splitV s).2, (splitV s).1, ((1 + (splitV s).1.length : Nat) : Int), (List.range' 1 (splitV s).1.length).map mT, (splitV s).1, split_f s, rfl, eqS_f _ 4096 (by omega) (by omega), ?_, ?_, rfl, eqS_f _ 4096 (by omega) (by omega), ?_, by omega, by omega⟩
  · exact markS_f _ 1 4096 (by omega) (by omega) (by omega)
  · exact heldS_f _ 1 4096 (by omega) (by omega) (by omega)
  · exact heldS_f _ 1 4096 (by omega) (by omega) (by omega)

end Go.Proofs.YtknlpjoidjgciaaDoor.Pure
