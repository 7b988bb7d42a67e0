/- A snapshot's record: its cells, when it is right, its bytes. No condition. -/
import Derived.Test.YtknlpjoidjgciaaDoorWFsb
import Derived.Test.YtknlpjoidjgciaaDoorWCrc
import Derived.Test.YtknlpjoidjgciaaDoorWGrow
import Derived.Test.YtknlpjoidjgciaaDoorWDec
namespace Go.Proofs.YtknlpjoidjgciaaDoorW.PrintSnp
open Go Go.RowKit Go.Proofs.YtknlpjoidjgciaaDoorW.PrintWords Go.Proofs.YtknlpjoidjgciaaDoorW.PrintHand Go.Proofs.YtknlpjoidjgciaaDoorW.PrintHx Go.Proofs.YtknlpjoidjgciaaDoorW.PrintLe Go.Proofs.YtknlpjoidjgciaaDoorW.PrintIno Go.Proofs.YtknlpjoidjgciaaDoorW.PrintFsi Go.Proofs.YtknlpjoidjgciaaDoorW.PrintFsb Go.Proofs.YtknlpjoidjgciaaDoorW.PrintCrc Go.Proofs.YtknlpjoidjgciaaDoorW.PrintGrow Go.Proofs.YtknlpjoidjgciaaDoorW.PrintDec
set_option linter.unusedVariables false
set_option linter.unusedSimpArgs false
section
variable {P : Program} {ops : Array Oper} {rest : List Oper} {o : Oper} {a : Act} {w : World} {Q : Exit → Act → World → Prop}
/-- '==' of two numbers, as a letter. -/
theorem hx_eqi (hgd : o.guard = none) (t u : TypeId) (x y : Operand) (ho : o.op = .binOp .eql t x y u) (ht : P.underlying t = some (.int .i64)) (p q : Int) (hx : a.eval x = .int .i64 p) (hy : a.eval y = .int .i64 q)
    (b : Bool) (hb : Aside0 ((p == q) = b)) (h : wpList P ops Q rest (a.put o.dst (.bool b)) w) : wpList P ops Q (o :: rest) a w := by
  obtain rfl := hb.out
  refine wpList_plain hgd fun K hK => ?_
  have hg : (eqGuard .eql t x y (.int .i64 p) (.int .i64 q)).run P w = .ok () w := by simp [eqGuard]
  have hr : (binOp .eql t (.int .i64 p) (.int .i64 q)).run P w = .ok (.bool (p == q)) w := by
    have h1 := run_equalIn_int (P := P) w 9999 t .i64 .i64 p q ht
    simp only [binOp]
    simp [Op.equal, Op.maxDepth, h1]
    rfl
  unfold Oper.wp execOp
  simp only [ho, hx, hy, Sem.run_bind, hg, hr, Result.andThen_ok, Sem.run_pure, Oper.upon_value]
  exact hK _ _ h
end
/-- The record's cells. -/
def snapC (x : Int) (s : ByteArray) (p q : Int) (r : List Int) : List Value := .int .i64 x :: .string s :: .int .i64 p :: .int .i64 q :: nums .i64 r
theorem snapC_length {x : Int} {s : ByteArray} {p q : Int} {r : List Int} (h : r.length = 15) : (snapC x s p q r).length = 19 := by simp [snapC, nums, h]
def magicS : List Int := [115, 110, 97, 112, 115, 104, 111, 116]
/-- c: the name's code. -/
def snapGood (x c p q : Int) (r : List Int) : Bool := rng x 1 31 && (decide (c = 0) && (rng p 1 1099511627776 && (rng q 1 1099511627776 && (rootGood r && sizeI (r.getD 0 0)))))
theorem snapGood_get {x c p q : Int} {r : List Int} (h : snapGood x c p q r = true) : (1 ≤ x ∧ x ≤ 31) ∧ c = 0 ∧ (1 ≤ p ∧ p ≤ 1099511627776) ∧ (1 ≤ q ∧ q ≤ 1099511627776) ∧ rootGood r = true := by
  unfold snapGood at h
  simp only [Bool.and_eq_true, decide_eq_true_eq] at h
  obtain ⟨h1, h2, h3, h4, h5, _⟩ := h
  exact ⟨rng_of h1, h2, rng_of h3, rng_of h4, h5⟩
def nameB (s : ByteArray) : List Int := bytesOf s ++ List.replicate (26 - s.size) 0
def snapHead (x : Int) (s : ByteArray) : List Int := [magicS, leB x 1, leB (s.size : Int) 1, nameB s, leB 0 4].flatten
def snapBody (x : Int) (s : ByteArray) (p q : Int) (r : List Int) : List Int := [snapHead x s, leB p 8, leB q 8, rootBytes r].flatten
def snapFill (x : Int) (s : ByteArray) (p q : Int) (r : List Int) : List Int := snapBody x s p q r ++ List.replicate 388 0
def snapBytes (x : Int) (s : ByteArray) (p q : Int) (r : List Int) : List Int := snapFill x s p q r ++ leB (crcV (snapFill x s p q r)) 4
theorem nameB_length {s : ByteArray} (h : s.size ≤ 26) : (nameB s).length = 26 := by
  rw [nameB, List.length_append, bytesOf_length, List.length_replicate]
  omega
theorem snapHead_length {x : Int} {s : ByteArray} (h : s.size ≤ 26) : (snapHead x s).length = 40 := by
  simp [snapHead, magicS, leB_length, nameB_length h]
theorem snapBody_length {x : Int} {s : ByteArray} {p q : Int} {r : List Int} (h : s.size ≤ 26) (hr : r.length = 15) : (snapBody x s p q r).length = 120 := by
  simp [snapBody, snapHead_length h, leB_length, rootBytes_length hr]
theorem snapFill_length {x : Int} {s : ByteArray} {p q : Int} {r : List Int} (h : s.size ≤ 26) (hr : r.length = 15) : (snapFill x s p q r).length = 508 := by
  rw [snapFill, List.length_append, snapBody_length h hr, List.length_replicate]
theorem bytesOf_byt (s : ByteArray) : Byt (bytesOf s) := fun x hx => by
  unfold bytesOf at hx
  obtain ⟨b, _, rfl⟩ := List.mem_map.1 hx
  have := b.toNat_lt
  omega
theorem nameB_byt (s : ByteArray) : Byt (nameB s) := byt_append (bytesOf_byt s) (byt_zeros _)
theorem magicS_byt : Byt magicS := fun x hx => by
  unfold magicS at hx
  simp only [List.mem_cons, List.not_mem_nil, or_false] at hx
  omega
theorem snapHead_byt (x : Int) (s : ByteArray) : Byt (snapHead x s) := byt_flatten (fun y hy => by
  simp only [List.mem_cons, List.not_mem_nil, or_false] at hy
  rcases hy with rfl | rfl | rfl | rfl | rfl
  · exact magicS_byt
  · exact leB_byt _ _
  · exact leB_byt _ _
  · exact nameB_byt s
  · exact leB_byt _ _)
theorem snapBody_byt (x : Int) (s : ByteArray) (p q : Int) (r : List Int) : Byt (snapBody x s p q r) := byt_flatten (fun y hy => by
  simp only [List.mem_cons, List.not_mem_nil, or_false] at hy
  rcases hy with rfl | rfl | rfl | rfl
  · exact snapHead_byt x s
  · exact leB_byt _ _
  · exact leB_byt _ _
  · exact rootBytes_byt _)
theorem snapFill_byt (x : Int) (s : ByteArray) (p q : Int) (r : List Int) : Byt (snapFill x s p q r) := byt_append (snapBody_byt x s p q r) (byt_zeros _)
theorem snapBytes_byt (x : Int) (s : ByteArray) (p q : Int) (r : List Int) : Byt (snapBytes x s p q r) := byt_append (snapFill_byt x s p q r) (leB_byt _ _)
theorem snapC_size {x : Int} {s : ByteArray} {p q : Int} {r : List Int} (h : r.length = 15) : (snapC x s p q r).toArray.size = 19 := by simp [snapC, nums, h]
theorem snapC_root {x : Int} {s : ByteArray} {p q : Int} {r : List Int} (h : r.length = 15) : ((snapC x s p q r).toArray.toList.drop 4).take 15 = (nums .i64 r).toArray.toList := by
  show (nums .i64 r).take 15 = _
  rw [List.take_of_length_le (by simp [nums, h])]
theorem snapC_at4 {x : Int} {s : ByteArray} {p q : Int} {r : List Int} (h : r.length = 15) : (snapC x s p q r).toArray[4]? = some (.int .i64 (r.getD 0 0)) := by
  obtain ⟨y, ys, rfl⟩ : ∃ y ys, r = y :: ys := by
    cases r with
    | nil => simp at h
    | cons y ys => exact ⟨y, ys, rfl⟩
  rfl
theorem snapC_rcell {x : Int} {s : ByteArray} {p q : Int} {r : List Int} (h : r.length = 15) (i : Nat) (hi : i < 15) : (snapC x s p q r).toArray[4 + i]? = some (.int .i64 (r.getD i 0)) := by
  have e : (snapC x s p q r).toArray[4 + i]? = (nums .i64 r)[i]? := by
    rw [List.getElem?_toArray, show 4 + i = i + 1 + 1 + 1 + 1 by omega]
    rfl
  have hl : i < r.length := by omega
  rw [e]
  simp [nums, hl]
theorem snapC_one (x : Int) (s : ByteArray) (p q : Int) (r : List Int) : (snapC x s p q r).toArray.toList.all (·.oneCell') = true := by simp [snapC, nums, Value.oneCell']
theorem snapC_setr {x : Int} {s : ByteArray} {p q : Int} {r r' : List Int} (h : r.length = 15) (h' : r'.length = 15) : (snapC x s p q r).toArray.toList.take 4 ++ nums .i64 r' ++ (snapC x s p q r).toArray.toList.drop (4 + (nums .i64 r').length) = (snapC x s p q r').toArray.toList := by
  have e : (snapC x s p q r).toArray.toList.drop (4 + (nums .i64 r').length) = [] := by
    rw [List.drop_eq_nil_of_le]
    simp [snapC, nums, h, h']
  rw [e, List.append_nil]
  rfl
theorem leB_zero : leB 0 4 = List.replicate 4 0 := by decide
theorem snap_puts {x : Int} {s : ByteArray} {p q : Int} {r Q0 Q1 Q2 Q3 Q4 Q5 Q6 Q7 : List Int} (hs : s.size ≤ 26) (hr : r.length = 15) (h0 : Q0 = List.replicate 512 0) (h1 : Q1 = Q0.take 0 ++ magicS ++ Q0.drop (0 + 8)) (h2 : Q2 = Q1.take (0 + 8) ++ leB x 1 ++ Q1.drop (0 + 8 + 1)) (h3 : Q3 = Q2.take (0 + 9) ++ leB (s.size : Int) 1 ++ Q2.drop (0 + 9 + 1))
    (h4 : Q4 = Q3.take 10 ++ bytesOf s ++ Q3.drop (10 + s.size)) (h5 : Q5 = Q4.take (0 + 40) ++ leB p 8 ++ Q4.drop (0 + 40 + 8)) (h6 : Q6 = Q5.take (0 + 48) ++ leB q 8 ++ Q5.drop (0 + 48 + 8)) (h7 : Q7 = Q6.take 56 ++ rootBytes r ++ Q6.drop (56 + 64)) : Q7 = snapBody x s p q r ++ List.replicate 392 0 := by
  have hb := bytesOf_length s
  have e1 : Q1 = magicS ++ List.replicate 504 0 := by
    rw [h1, h0]
    exact put_end [] magicS 0 8 512 0 rfl rfl (by decide) rfl
  have e2 : Q2 = (magicS ++ leB x 1) ++ List.replicate 503 0 := by
    rw [h2, e1]
    exact put_end magicS (leB x 1) 8 1 504 (0 + 8) rfl (leB_length _ _) (by decide) rfl
  have e3 : Q3 = ((magicS ++ leB x 1) ++ leB (s.size : Int) 1) ++ List.replicate 502 0 := by
    rw [h3, e2]
    exact put_end _ _ 9 1 503 (0 + 9) (by simp [magicS, leB_length]) (leB_length _ _) (by decide) rfl
  have l3 : ((magicS ++ leB x 1) ++ leB (s.size : Int) 1).length = 10 := by simp [magicS, leB_length]
  have e4 : Q4 = (((magicS ++ leB x 1) ++ leB (s.size : Int) 1) ++ bytesOf s) ++ List.replicate (502 - s.size) 0 := by
    rw [h4, e3]
    exact put_end _ _ 10 s.size 502 10 l3 hb (by omega) rfl
  have e5 := put_zeros (((magicS ++ leB x 1) ++ leB (s.size : Int) 1) ++ bytesOf s) (leB p 8) (10 + s.size) (30 - s.size) (502 - s.size) (0 + 40) 8 (by rw [List.length_append, l3, hb]) (leB_length _ _) (by omega) (by omega)
  rw [← e4, ← h5, show 502 - s.size - (30 - s.size) - 8 = 464 by omega] at e5
  have ez : bytesOf s ++ List.replicate (30 - s.size) 0 = nameB s ++ leB 0 4 := by
    rw [leB_zero, nameB, List.append_assoc, List.replicate_append_replicate, show 26 - s.size + 4 = 30 - s.size by omega]
  have e5' : Q5 = (snapHead x s ++ leB p 8) ++ List.replicate 464 0 := by
    rw [e5]
    have : (((magicS ++ leB x 1) ++ leB (s.size : Int) 1) ++ bytesOf s) ++ (List.replicate (30 - s.size) 0 ++ leB p 8) = snapHead x s ++ leB p 8 := by
      rw [← List.append_assoc, List.append_assoc ((magicS ++ leB x 1) ++ leB (s.size : Int) 1) (bytesOf s), ez]
      simp only [snapHead, List.flatten_cons, List.flatten_nil, List.append_nil, List.append_assoc]
    rw [this]
  have e6 : Q6 = ((snapHead x s ++ leB p 8) ++ leB q 8) ++ List.replicate 456 0 := by
    rw [h6, e5']
    exact put_end _ _ 48 8 464 (0 + 48) (by rw [List.length_append, snapHead_length hs, leB_length]) (leB_length _ _) (by decide) rfl
  rw [h7, e6, put_end _ _ 56 64 456 56 (by rw [List.length_append, List.length_append, snapHead_length hs, leB_length, leB_length]) (rootBytes_length hr) (by decide) rfl]
  simp only [snapBody, List.flatten_cons, List.flatten_nil, List.append_nil, List.append_assoc, Nat.reduceSub]
end Go.Proofs.YtknlpjoidjgciaaDoorW.PrintSnp
