/- TellAns: asWord. -/
import Derived.Test.YtknlpjoidjgciaaDoorTld
import Derived.Test.YtknlpjoidjgciaaDoorPFnExactTellAnsx8
namespace Go.Proofs.YtknlpjoidjgciaaDoor.PFnExactTellAns
open Go.RowKit Go.Proofs.YtknlpjoidjgciaaDoorW.PrintWords Go.Proofs.YtknlpjoidjgciaaDoorW.PrintLast Go.Proofs.YtknlpjoidjgciaaDoorW.PrintMore
open Go.Proofs.YtknlpjoidjgciaaDoorW Go.Proofs.YtknlpjoidjgciaaDoorW.PrintHand Go.Proofs.YtknlpjoidjgciaaDoorW.PrintHx
attribute [local go_sem] max2_int min2_int max_two min_two max_three min_three max_four min_four
set_option linter.unusedVariables false
set_option linter.unusedSimpArgs false

theorem bytes_reads_ {e : Nat} (s : ByteArray) (hs : s.size ≤ 9223372036854775807) (cap : Nat) (hcap : s.size ≤ cap) (n : Nat) (fr : Nat × Nat) {w' : World} (h : w'.heap[n]? = some (.cells (bytesRow s cap) e fr)) : ∃ A c, (Value.slice (some ⟨n, 0, none⟩) s.size cap) = .slice A (bytesOf s).length c ∧ (bytesOf s).length ≤ c ∧ Kd.C (Kd.int .u8) w' A (bytesOf s).length (bytesOf s) := by
  have hl := bytesOf_length s
  refine ⟨_, _, by rw [hl], by rw [hl]; exact hcap, rfl, by rw [hl]; exact hs, fun _ => ⟨_, rfl, fun j p hj => ⟨[.int .u8 p], rfl, rfl, fun i u hi => ?_⟩⟩⟩
  have hi0 : i = 0 := by
    have := (List.getElem?_eq_some_iff.1 hi).1
    simpa using this
  subst hi0
  have hu : u = .int .u8 p := by simpa using hi.symm
  subst hu
  have hjl : j < s.size := by
    have := (List.getElem?_eq_some_iff.1 hj).1
    omega
  have hd : j < s.data.size := hjl
  have hp : p = ((s.data[j]).toNat : Int) := by
    unfold bytesOf at hj
    rw [List.getElem?_map, Array.getElem?_toList, Array.getElem?_eq_getElem hd] at hj
    simpa using hj.symm
  have ha : (⟨n, 0, none⟩ : Addr).add (j * (Kd.int .u8).sz + 0) = ⟨n, j, none⟩ := by
    show (⟨n, 0, none⟩ : Addr).add (j * 1 + 0) = _
    rw [add_plain]
    simp
  rw [ha]
  simp only [World.cell?, h, bytesRow]
  rw [Array.getElem?_append_left (by simpa using hd), Array.getElem?_map, Array.getElem?_eq_getElem hd, hp]
  rfl
theorem inner_nums {k : IntKind} {w : World} {base : Nat} {ok : Nat → Prop} {xs : List Int} {inner : List Value} (h : Reps ((Kd.int k).M w base ok) 1 xs inner) : inner = nums k xs := by
  have hl : inner.length = xs.length := by rw [h.1, Nat.mul_one]
  refine List.ext_getElem (by rw [hl]; simp [nums]) fun j h1 h2 => ?_
  have hj : j < xs.length := by omega
  have hp : (inner.drop (j * 1)).take 1 = [.int k (xs[j]'hj)] := h.2 j _ (List.getElem?_eq_getElem hj)
  rw [Nat.mul_one, List.drop_eq_getElem_cons h1, List.take_succ_cons, List.take_zero] at hp
  rw [(List.cons.inj hp).1]
  simp [nums]
theorem encI_byt (x : Int) (h0 : 0 ≤ x) (h1 : x ≤ 255) : ∀ y ∈ encI x, 0 ≤ y ∧ y ≤ 255 := by
  intro y hy
  unfold encI at hy
  split at hy
  · obtain rfl := List.mem_singleton.1 hy
    exact ⟨h0, h1⟩
  · rcases List.mem_cons.1 hy with rfl | hy
    · omega
    · rcases List.mem_cons.1 hy with rfl | hy
      · exact bt_range _ _
      · obtain rfl := List.mem_singleton.1 hy
        exact bt_range _ _
theorem wordL_byt (s : ByteArray) (n : Nat) : ∀ y ∈ wordL s n, 0 ≤ y ∧ y ≤ 255 := by
  intro y hy
  obtain ⟨l, hl, hy⟩ := List.mem_flatten.1 hy
  obtain ⟨i, _, rfl⟩ := List.mem_map.1 hl
  exact encI_byt _ (bt_range _ _).1 (bt_range _ _).2 y hy
/-- the bytes of numbers -/
def byts (xs : List Int) : List UInt8 := xs.map fun n => UInt8.ofNat n.toNat
theorem byts_cells (xs : List Int) (h : ∀ y ∈ xs, 0 ≤ y ∧ y ≤ 255) : Lib.byteCells (byts xs) = nums .u8 xs := by
  unfold Lib.byteCells byts nums
  rw [List.map_map]
  refine List.map_congr_left fun y hy => ?_
  have := h y hy
  have e : (UInt8.ofNat y.toNat).toNat = y.toNat := by
    simp [UInt8.toNat_ofNat']
    omega
  show Value.int .u8 (((UInt8.ofNat y.toNat).toNat : Nat) : Int) = _
  rw [e]
  congr 1
  omega
theorem bits_low (x : Int) (h0 : 0 ≤ x) (h1 : x ≤ 255) : bits BinOp.and IntKind.u8 x 15 = x % 16 := by
  have key : ∀ n : Fin 256, bits BinOp.and IntKind.u8 ((n.val : Nat) : Int) 15 = ((n.val : Nat) : Int) % 16 := by decide +kernel
  have := key ⟨x.toNat, by omega⟩
  rwa [show ((x.toNat : Nat) : Int) = x by omega] at this
theorem within_told (x : Int) (w : World) : Calls Tryd.prog 87 #[.int .i64 x, .int .i64 33, .int .i64 126] w fun e w' => e = .returned (.bool (decide (33 ≤ x) && decide (x ≤ 126))) ∧ Below w.heap.size w w' := by
  refine (impl_within.calls x 33 126 (decide (33 ≤ x) && decide (x ≤ 126)) w ?_).mono ?_
  · unfold impl_within.f
    by_cases h : (33 : Int) ≤ x
    · rw [if_pos h, decide_eq_true h, Bool.true_and]
    · rw [if_neg h, decide_eq_false h, Bool.false_and]
  · rintro e w' ⟨rfl, h⟩
    exact ⟨rfl, Drawn0.below h⟩
theorem spw2 (x : Int) : ((decide (33 ≤ x) && decide (x ≤ 126)) = true ∧ (x != 37) = true ∧ (x != 58) = true ∧ (x != 45) = true ∧ encI x = [x]) ∨
    (((decide (33 ≤ x) && decide (x ≤ 126)) = false ∨ ((decide (33 ≤ x) && decide (x ≤ 126)) = true ∧ (x != 37) = false) ∨ ((decide (33 ≤ x) && decide (x ≤ 126)) = true ∧ (x != 37) = true ∧ (x != 58) = false) ∨ ((decide (33 ≤ x) && decide (x ≤ 126)) = true ∧ (x != 37) = true ∧ (x != 58) = true ∧ (x != 45) = false)) ∧ encI x = [37, bt hexS (x / 16), bt hexS (x % 16)]) := by
  rcases spw x with ⟨q1, q2, q3, q4, q5, e_⟩ | ⟨q1 | ⟨q1, q2⟩ | ⟨q1, q2, q3⟩ | ⟨q1, q2, q3, q4⟩ | ⟨q1, q2, q3, q4, q5⟩, e_⟩ <;> simp only [q1, Bool.false_and, Bool.true_and]
  · exact .inl ⟨q2, q3, q4, q5, e_⟩
  · exact .inr ⟨.inl trivial, e_⟩
  · exact .inr ⟨.inl q2, e_⟩
  · exact .inr ⟨.inr (.inl ⟨q2, q3⟩), e_⟩
  · exact .inr ⟨.inr (.inr (.inl ⟨q2, q3, q4⟩)), e_⟩
  · exact .inr ⟨.inr (.inr (.inr ⟨q2, q3, q4, q5⟩)), e_⟩
theorem is_builder (B b : Nat) (p v : Value) (xs : List Int) (ok : Nat → Prop) (w : World) (hp : p = .pointer none ∨ p = .pointer (some ⟨b, 0, none⟩)) (hg : w.heap[b]? = some (.cells #[p, v] 146 (0, 0))) (hO : Kd.R (Kd.int .u8) 5 w B ok v xs) (hokb : ∀ k, ok k → k ≠ b) (hB : B ≤ b) (hx : ∀ y ∈ xs, 0 ≤ y ∧ y ≤ 255) : Lib.IsBuilder 146 5 B b (Lib.byteCells (byts xs)) w := by
  have hne : v.ownBlock ≠ some b := fun e => hokb b (hO.1 b e) rfl
  obtain ⟨_, inner, ho, hr⟩ := hO
  have e := inner_nums hr
  subst e
  have ho2 : w.ownsRow B 5 1 v (Lib.byteCells (byts xs)).length (Lib.byteCells (byts xs)) := by
    rw [byts_cells xs hx]
    have : (nums .u8 xs).length = xs.length := by simp [nums]
    rw [this]
    exact ho
  rcases hp with rfl | rfl
  · exact .inl ⟨hB, v, hg, ho2, hne⟩
  · exact .inr ⟨hB, v, hg, ho2, hne⟩
section
variable {P : Program} {ops : Array Oper} {rest : List Oper} {o : Oper} {a : Act} {w : World} {Q : Exit → Act → World → Prop}
theorem ex_bytes (hgd : o.guard = none) {src dst e : TypeId} {x : Operand} (ho : o.op = .convert src dst x) (hs : P.underlying src = some .string) (hd : P.underlying dst = some (.slice e)) (he : P.underlying e = some (.int .u8)) (s : ByteArray) (hx : a.eval x = .string s) (N : Tmp) (hN : o.dst = some N) {n : Nat} (hsz : Aside0 (w.heap.size = n))
    (h : ∀ (cap : Nat) (fr : Nat × Nat) (w' : World), Aside0 (s.size ≤ cap) → Aside0 (w'.heap.size = n + 1) → Aside0 (Below w.heap.size w w') → Aside0 (w'.heap[n]? = some (.cells (bytesRow s cap) e fr)) → wpList P ops Q rest (a.put (some N) (.slice (some ⟨n, 0, none⟩) s.size cap)) w') : wpList P ops Q (o :: rest) a w := by
  have en := hsz.out
  subst en
  have hr := run_bytes_of_string (P := P) w src dst e s hs hd he
  refine Go.Great.wpList_runTo hgd (some N) hN (.slice (some ⟨w.heap.size, 0, none⟩) s.size (grownCap w s.size 0 e)) (w.drew.alloc (.cells (bytesRow s (grownCap w s.size 0 e)) e ((bytesRow s (grownCap w s.size 0 e)).size, (bytesRow s (grownCap w s.size 0 e)).size + 1))) ?_ (h _ _ _ ⟨grownCap_ge w s.size 0 e⟩ ⟨World.size_alloc _ _⟩ ⟨below_alloc (Below.refl _ _).drew _⟩ ⟨blk_new w.drew _⟩)
  unfold execOp
  simp only [ho, hx, Sem.run_bind, hr, Result.andThen_ok, Sem.run_pure]
end
set_option maxHeartbeats 8000000 in
set_option maxRecDepth 100000 in
theorem asWord_told (s : ByteArray) (hs : s.size ≤ 4000000000) (w : World) : Calls Tryd.prog 51 #[.string s] w fun e w' => e = .returned (.string (wordS s)) ∧ Below w.heap.size w w' := by
  by_cases c2 : s.toList = ([] : List UInt8)
  · have c2b0 : (s.toList == ([] : List UInt8)) = true := beq_iff_eq.mpr c2
    have e_ : wordS s = ⟨#[45]⟩ := if_pos c2
    rw [e_]
    clear c2 e_ hs
    go_enter Tryd.func51, Tryd.ntmps51
    go_wp2
    go_ret
    exact ⟨rfl, Below.refl _ _⟩
  have c2b0 : (s.toList == ([] : List UInt8)) = false := beq_eq_false_iff_ne.mpr c2
  have E_ : Aside0 (wordS s = strOfNums (wordL s s.size)) := ⟨if_neg c2⟩
  have HS := Aside0.mk hs
  clear c2 hs
  obtain ⟨b, hb⟩ : ∃ b, w.heap.size = b := ⟨_, rfl⟩
  have SB := Aside0.mk hb
  rw [hb]
  clear hb
  go_enter Tryd.func51, Tryd.ntmps51
  go_wp2_with (first | ((with_reducible refine gate_dst (N := 3) rfl ?_); refine hx_alloc rfl 3 rfl 146 rfl SB (.agg #[.pointer none, .slice none 0 0]) #[.pointer none, .slice none 0 0] Tryd.zeroValue146 rfl ?_; intro w1 s1 h1_ hs1_ b1_ g1_; have L1 := Aside0.mk h1_; have B1 : Aside0 (Below b w w1) := ⟨by have q_ := b1_; rw [SB.out] at q_; exact q_⟩; have G1 := Aside0.mk g1_; clear h1_ b1_ g1_) | ((with_reducible refine gate_dst (N := 9) rfl ?_); refine ex_bytes rfl (src := 9) (dst := 22) (e := 5) (x := .tmp 8) rfl Tryd.underlying9 Tryd.underlying22 Tryd.underlying5 s rfl 9 rfl hs1_ ?_; intro cap fr w2 CP S2 b2_ CB; have B2 : Aside0 (Below b w w2) := ⟨below_then B1.out (by have := L1.out; have := hs1_.out; omega) b2_.out⟩; have G2 : Aside0 (w2.heap[b]? = some (.cells #[.pointer none, .slice none 0 0] 146 (0, 0))) := ⟨by rw [b2_.out.block b (by have := L1.out; have := hs1_.out; omega)]; exact G1.out⟩; clear b2_ G1 B1 hs1_))
  (try simp only [Act.put, List.setIfInBounds_toArray, List.set_cons_succ, List.set_cons_zero])
  obtain ⟨ok, hok⟩ : ∃ ok : Nat → Prop, ok = fun k => b < k ∧ k ≠ s1 := ⟨_, rfl⟩
  have OKB : Aside0 (∀ k, ok k → k ≠ b) := ⟨by rw [hok]; intro k h; omega⟩
  have OKS : Aside0 (¬ ok s1) := ⟨by rw [hok]; intro h; exact h.2 rfl⟩
  have OKF : Aside0 (∀ k, s1 + 1 ≤ k → ok k) := ⟨by rw [hok]; intro k h; have := L1.out; exact ⟨by omega, by omega⟩⟩
  clear hok
  go_loopg [11] s.size (fun kq v11 wr => ∃ (i : Nat) (p v : Value), v11 = .int .i64 (i : Int) ∧ Aside0 (kq + i = s.size) ∧ Aside0 (p = .pointer none ∨ p = .pointer (some ⟨b, 0, none⟩)) ∧ Aside0 (wr.heap[b]? = some (.cells #[p, v] 146 (0, 0))) ∧ Aside0 (Kd.R (Kd.int .u8) 5 wr b ok v (wordL s i)) ∧ Aside0 (Below b w wr) ∧ Aside0 (wr.heap[s1]? = some (.cells (bytesRow s cap) 5 fr)) ∧ Aside0 (s1 + 1 ≤ wr.heap.size))
  case atStart => exact ⟨0, _, _, rfl, ⟨by simp⟩, ⟨.inl rfl⟩, G2, ⟨Kd.R_nil _ _ _ _ _⟩, B2, CB, ⟨by rw [S2.out]; exact Nat.le_refl _⟩⟩
  case round =>
    clear G2 B2 CB S2
    obtain ⟨i, p, v, rfl, hki, HP, G, O, HB, CB, HSZ⟩ := hrel
    obtain ⟨wn, rfl⟩ : ∃ x, x = wr := ⟨_, rfl⟩
    by_cases ci : i < s.size
    case pos =>
      have ci0 : decide ((i : Int) < (s.size : Int)) = true := decide_eq_true (by omega)
      have ci1 : decide (i < s.size) = true := decide_eq_true ci
      have ci2 : ((i : Int) < (s.size : Int)) = True := eq_true (by omega)
      have ci3 : (0 ≤ (i : Int)) = True := eq_true (by omega)
      have ci4 : (i < s.size) = True := eq_true ci
      have CI := Aside0.mk ci
      clear ci
      have hw_ : wrap64 ((i : Int) + 1) = ((i + 1 : Nat) : Int) := by (have := CI.out; have := HS.out; unfold wrap64; omega)
      have LW : Aside0 ((wordL s i).length ≤ 12000000000) := ⟨by have := wordL_le s i; have := CI.out; have := HS.out; omega⟩
      have hCR : Kd.C (Kd.int .u8) wn (some ⟨s1, 0, none⟩) s.size (bytesOf s) := by
        obtain ⟨A_, c_, e1_, _, h_⟩ := bytes_reads_ (e := 5) s (by have := HS.out; omega) cap CP.out s1 fr CB.out
        rw [bytesOf_length] at e1_ h_
        cases e1_
        exact h_
      obtain ⟨ad, ea, hx⟩ := Kd.at_int hCR (i : Int) (by omega) (by have := CI.out; omega)
      cases ea
      obtain ⟨x, hxe⟩ : ∃ x, x = rd (bytesOf s) (i : Int) := ⟨_, rfl⟩
      rw [Int.toNat_natCast, ← hxe, add_plain] at hx
      have HX : Aside0 (x = bt s (i : Int)) := ⟨by rw [hxe, rd_bytesOf]⟩
      have RX : Aside0 (0 ≤ x ∧ x ≤ 255) := ⟨by rw [HX.out]; exact bt_range _ _⟩
      have hwx : wrap64 x = x := by (have := RX.out; unfold wrap64; omega)
      have hbx := bits_low x RX.out.1 RX.out.2
      clear hxe hCR
      rcases spw2 x with ⟨q1, q3, q4, q5, e_⟩ | ⟨q1 | ⟨q1, q3⟩ | ⟨q1, q3, q4⟩ | ⟨q1, q3, q4, q5⟩, e_⟩ <;> have EX := Aside0.mk e_ <;> have QW := Aside0.mk q1 <;> clear e_ q1
      all_goals (go_wp2_with (first | ((with_reducible refine gate_dst (N := 35) rfl ?_); refine ex_byte rfl _ (.tmp 34) rfl Tryd.underlying9 hexS (x / 16) rfl rfl (by have := RX.out; omega) (by have := RX.out; show x / 16 < 16; omega) 35 rfl ?_; intro ya hya rya) | ((with_reducible refine gate_dst (N := 39) rfl ?_); refine ex_byte rfl _ (.tmp 38) rfl Tryd.underlying9 hexS (x % 16) rfl rfl (by have := RX.out; omega) (by have := RX.out; show x % 16 < 16; omega) 39 rfl ?_; intro yb hyb ryb) | ((with_reducible refine gate_dst (N := 17) rfl ?_); refine goesL_ (some 17) rfl rfl Tryd.func87 (by kernel_rfl) rfl #[.int .i64 x, .int .i64 33, .int .i64 126] rfl (by simp only [List.map_toArray, List.map_cons, List.map_nil, hwx]; first | done | rfl) ?_; refine (within_told x _).mono ?_; rintro e_ wm ⟨rfl, b_⟩; refine ⟨_, rfl, ?_⟩; have CB : Aside0 (wm.heap[s1]? = some (.cells (bytesRow s cap) 5 fr)) := ⟨by rw [b_.block s1 (by have := HSZ.out; omega)]; exact CB.out⟩; have G : Aside0 (wm.heap[b]? = some (.cells #[p, v] 146 (0, 0))) := ⟨by rw [b_.block b (by have := HSZ.out; have := L1.out; omega)]; exact G.out⟩; have O := Aside0.mk (Kd.R_below O.out b_); have HB := Aside0.mk (below_then HB.out (by have := HSZ.out; have := L1.out; omega) b_); have HSZ := Aside0.mk (Nat.le_trans HSZ.out b_.size); clear b_; rw [QW.out]) | ((with_reducible refine gate_dst (N := 31) rfl ?_); refine goesL_ (some 31) rfl rfl Tryd.func88 (by kernel_rfl) rfl #[.pointer (some ⟨b, 0, none⟩), .int .u8 x] rfl (by (try simp only [List.map_toArray, List.map_cons, List.map_nil]); first | done | rfl) ?_; refine (WriteByte_told b b _ _ _ ok _ _ w HP.out G.out O.out OKB.out (fun k_ hk_ => OKF.out k_ (Nat.le_trans HSZ.out hk_)) HB.out (Nat.le_refl _) (by have := HSZ.out; have := L1.out; omega) (by have := LW.out; first | omega | (simp only [List.length_append, List.length_cons, List.length_nil]; omega))).mono ?_; rintro e_ wm ⟨rfl, v2_, g_, o_, b_, k_, z_⟩; refine ⟨_, rfl, ?_⟩; have CB := Aside0.mk ((k_ s1 (by have := HSZ.out; omega) (by have := L1.out; omega) OKS.out).trans CB.out); have HSZ := Aside0.mk (Nat.le_trans HSZ.out z_); have HP : Aside0 ((.pointer (some ⟨b, 0, none⟩) : Value) = .pointer none ∨ (.pointer (some ⟨b, 0, none⟩) : Value) = .pointer (some ⟨b, 0, none⟩)) := ⟨.inr rfl⟩; have G := Aside0.mk g_; have O := Aside0.mk o_; have HB := Aside0.mk b_; clear g_ o_ b_ k_ z_) | ((with_reducible refine gate_dst (N := 32) rfl ?_); refine goesL_ (some 32) rfl rfl Tryd.func88 (by kernel_rfl) rfl #[.pointer (some ⟨b, 0, none⟩), .int .u8 37] rfl (by (try simp only [List.map_toArray, List.map_cons, List.map_nil]); first | done | rfl) ?_; refine (WriteByte_told b b _ _ _ ok _ _ w HP.out G.out O.out OKB.out (fun k_ hk_ => OKF.out k_ (Nat.le_trans HSZ.out hk_)) HB.out (Nat.le_refl _) (by have := HSZ.out; have := L1.out; omega) (by have := LW.out; first | omega | (simp only [List.length_append, List.length_cons, List.length_nil]; omega))).mono ?_; rintro e_ wm ⟨rfl, v2_, g_, o_, b_, k_, z_⟩; refine ⟨_, rfl, ?_⟩; have CB := Aside0.mk ((k_ s1 (by have := HSZ.out; omega) (by have := L1.out; omega) OKS.out).trans CB.out); have HSZ := Aside0.mk (Nat.le_trans HSZ.out z_); have HP : Aside0 ((.pointer (some ⟨b, 0, none⟩) : Value) = .pointer none ∨ (.pointer (some ⟨b, 0, none⟩) : Value) = .pointer (some ⟨b, 0, none⟩)) := ⟨.inr rfl⟩; have G := Aside0.mk g_; have O := Aside0.mk o_; have HB := Aside0.mk b_; clear g_ o_ b_ k_ z_) | ((with_reducible refine gate_dst (N := 36) rfl ?_); refine goesL_ (some 36) rfl rfl Tryd.func88 (by kernel_rfl) rfl #[.pointer (some ⟨b, 0, none⟩), .int .u8 ya] rfl (by (try simp only [List.map_toArray, List.map_cons, List.map_nil]); first | done | rfl) ?_; refine (WriteByte_told b b _ _ _ ok _ _ w HP.out G.out O.out OKB.out (fun k_ hk_ => OKF.out k_ (Nat.le_trans HSZ.out hk_)) HB.out (Nat.le_refl _) (by have := HSZ.out; have := L1.out; omega) (by have := LW.out; first | omega | (simp only [List.length_append, List.length_cons, List.length_nil]; omega))).mono ?_; rintro e_ wm ⟨rfl, v2_, g_, o_, b_, k_, z_⟩; refine ⟨_, rfl, ?_⟩; have CB := Aside0.mk ((k_ s1 (by have := HSZ.out; omega) (by have := L1.out; omega) OKS.out).trans CB.out); have HSZ := Aside0.mk (Nat.le_trans HSZ.out z_); have HP : Aside0 ((.pointer (some ⟨b, 0, none⟩) : Value) = .pointer none ∨ (.pointer (some ⟨b, 0, none⟩) : Value) = .pointer (some ⟨b, 0, none⟩)) := ⟨.inr rfl⟩; have G := Aside0.mk g_; have O := Aside0.mk o_; have HB := Aside0.mk b_; clear g_ o_ b_ k_ z_) | ((with_reducible refine gate_dst (N := 40) rfl ?_); refine goesL_ (some 40) rfl rfl Tryd.func88 (by kernel_rfl) rfl #[.pointer (some ⟨b, 0, none⟩), .int .u8 yb] rfl (by (try simp only [List.map_toArray, List.map_cons, List.map_nil]); first | done | rfl) ?_; refine (WriteByte_told b b _ _ _ ok _ _ w HP.out G.out O.out OKB.out (fun k_ hk_ => OKF.out k_ (Nat.le_trans HSZ.out hk_)) HB.out (Nat.le_refl _) (by have := HSZ.out; have := L1.out; omega) (by have := LW.out; first | omega | (simp only [List.length_append, List.length_cons, List.length_nil]; omega))).mono ?_; rintro e_ wm ⟨rfl, v2_, g_, o_, b_, k_, z_⟩; refine ⟨_, rfl, ?_⟩; have CB := Aside0.mk ((k_ s1 (by have := HSZ.out; omega) (by have := L1.out; omega) OKS.out).trans CB.out); have HSZ := Aside0.mk (Nat.le_trans HSZ.out z_); have HP : Aside0 ((.pointer (some ⟨b, 0, none⟩) : Value) = .pointer none ∨ (.pointer (some ⟨b, 0, none⟩) : Value) = .pointer (some ⟨b, 0, none⟩)) := ⟨.inr rfl⟩; have G := Aside0.mk g_; have O := Aside0.mk o_; have HB := Aside0.mk b_; clear g_ o_ b_ k_ z_)))
      · cases gk with
        | zero => exact absurd CI.out (by have := hki.out; omega)
        | succ gk =>
          go_roundg gk
          case measure => omega
          case rel => exact ⟨i + 1, _, _, by first | rfl | rw [hw_], ⟨by have := hki.out; omega⟩, ⟨.inr rfl⟩, G, ⟨by (rw [wordL_succ, ← HX.out, EX.out]; exact O.out)⟩, HB, CB, HSZ⟩
      all_goals (
        rw [hya.out, hyb.out, List.append_assoc, List.append_assoc, List.singleton_append, List.singleton_append] at O
        cases gk with
        | zero => exact absurd CI.out (by have := hki.out; omega)
        | succ gk =>
          go_roundg gk
          case measure => omega
          case rel => exact ⟨i + 1, _, _, by first | rfl | rw [hw_], ⟨by have := hki.out; omega⟩, ⟨.inr rfl⟩, G, ⟨by (rw [wordL_succ, ← HX.out, EX.out]; exact O.out)⟩, HB, CB, HSZ⟩)
    case neg =>
      have ci0 : decide ((i : Int) < (s.size : Int)) = false := decide_eq_false (by omega)
      have ci1 : decide (i < s.size) = false := decide_eq_false ci
      have hi_ : i = s.size := by (have := hki.out; omega)
      subst hi_
      clear ci hki
      go_wp2_with (first | ((with_reducible refine gate_dst (N := 42) rfl ?_); refine goesL_ (some 42) rfl rfl Tryd.func89 (by kernel_rfl) rfl #[.pointer (some ⟨b, 0, none⟩)] rfl (by (try simp only [List.map_toArray, List.map_cons, List.map_nil]); first | done | rfl) ?_; refine (Tryd.Builder_String_any b b (byts (wordL s s.size)) wn (is_builder b b _ _ _ ok wn HP.out G.out O.out OKB.out (Nat.le_refl _) (wordL_byt s s.size)) (by have := HSZ.out; have := L1.out; omega)).mono ?_; rintro e_ wm ⟨rfl, b_⟩; refine ⟨_, rfl, ?_⟩; have HB2 := Aside0.mk (HB.out.trans b_); clear b_))
      go_ret
      rw [E_.out]
      exact ⟨rfl, HB2.out⟩
end Go.Proofs.YtknlpjoidjgciaaDoor.PFnExactTellAns
