-- Written by a program of this session (patch_print.py over the kit print)
import Derived.Test.YtjhaofdnlnbajaaPFnAccessx0
import Derived.Test.YtjhaofdnlnbajaaPFnAccessx1
namespace Go.Proofs.Ytjhaofdnlnbajaa.PFnAccess
open Go.RowKit Go.Proofs.YtjhaofdnlnbajaaW.PrintWords Go.Proofs.YtjhaofdnlnbajaaW.PrintLast Go.Proofs.YtjhaofdnlnbajaaW.PrintMore
attribute [local go_sem] max2_int min2_int max_two min_two max_three min_three max_four min_four   -- for this text's walks alone
set_option linter.unusedVariables false
set_option linter.unusedSimpArgs false

/-! ### laws_FnAccess: function 6 -/
mutual
def laws_FnAccess.l0 : Nat → Int → List Int → Int → Int → Option (Bool)
  | 0, _, _, _, _ => none
  | k + 1, x4, x109000, x109001, x109002 => if x4 < 20 then ((spec_l01Src_N.f x109000 x109001 x109002 512).bind fun bt109 => ((spec_l01Src_N.f x109000 bt109.2.1 bt109.2.2 3).bind fun bt112 => ((spec_l01Src_N.f x109000 bt112.2.1 bt112.2.2 3).bind fun bt115 => ((spec_l01Src_N.f x109000 bt115.2.1 bt115.2.2 3).bind fun bt119 => ((spec_l01Src_N.f x109000 bt119.2.1 bt119.2.2 3).bind fun bt122 => ((spec_l01Src_N.f x109000 bt122.2.1 bt122.2.2 8).bind fun bt125 => ((some (([1, 2, 4] : List Int) : List Int)).bind fun y128 => (laws_FnAccess.l1 k x4 (wrap64 (1 + bt119.1)) (wrap64 (1 + bt122.1)) bt125.1 true y128 (y128.length : Int) 0 x109000 bt125.2.1 bt125.2.2 0 0 bt109.1 (wrap64 (1 + bt112.1)) (wrap64 (1 + bt115.1)) 0 0 0 0)))))))) else (some true)
def laws_FnAccess.l1 : Nat → Int → Int → Int → Int → Bool → List Int → Int → Int → List Int → Int → Int → Int → Int → Int → Int → Int → Int → Int → Int → Int → Option (Bool)
  | 0, _, _, _, _, _, _, _, _, _, _, _, _, _, _, _, _, _, _, _, _ => none
  | k + 1, x4, x6, x7, x8, x9, x41, x42, x43, x109000, x109001, x109002, x119000, x119001, x119002, x119003, x119004, x119005, x119006, x119007, x119008 => if x43 < x42 then (if 0 ≤ x43 then (if x43 < (x41.length : Int) then (if (rd x41 x43) = 0 then (none) else (if (Int.tmod (wrap64 (Int.tdiv x8 (rd x41 x43))) 2) = 1 then ((impl_MayAccess.f x119000 x119001 x119002 x119003 x119004 x119005 x119006 x119007 x119008 ([] : List Int) x6 x7 (rd x41 x43)).bind fun t132 => (laws_FnAccess.j2 k x4 x6 x7 x8 x9 x41 x42 x43 (!t132) x109000 x109001 x109002 x119000 x119001 x119002 x119003 x119004 x119005 x119006 x119007 x119008)) else (laws_FnAccess.j2 k x4 x6 x7 x8 x9 x41 x42 x43 false x109000 x109001 x109002 x119000 x119001 x119002 x119003 x119004 x119005 x119006 x119007 x119008))) else (none)) else (none)) else ((impl_MayAccess.f x119000 x119001 x119002 x119003 x119004 x119005 x119006 x119007 x119008 ([] : List Int) x6 x7 x8).bind fun t133 => (if (t133 != x9) = true then (laws_FnAccess.j3 k x4 x6 x7 x8 x9 true x109000 x109001 x109002 x119000 x119001 x119002 x119003 x119004 x119005 x119006 x119007 x119008) else ((impl_MayAccess.f x119000 x119001 x119002 x119003 x119004 x119005 x119006 x119007 x119008 ([] : List Int) 0 x7 x8).bind fun t134 => (laws_FnAccess.j3 k x4 x6 x7 x8 x9 (!t134) x109000 x109001 x109002 x119000 x119001 x119002 x119003 x119004 x119005 x119006 x119007 x119008))))
def laws_FnAccess.j2 : Nat → Int → Int → Int → Int → Bool → List Int → Int → Int → Bool → List Int → Int → Int → Int → Int → Int → Int → Int → Int → Int → Int → Int → Option (Bool)
  | 0, _, _, _, _, _, _, _, _, _, _, _, _, _, _, _, _, _, _, _, _, _ => none
  | k + 1, x4, x6, x7, x8, x9, x41, x42, x43, x59, x109000, x109001, x109002, x119000, x119001, x119002, x119003, x119004, x119005, x119006, x119007, x119008 => if x59 = true then (laws_FnAccess.l1 k x4 x6 x7 x8 false x41 x42 (wrap64 (x43 + 1)) x109000 x109001 x109002 x119000 x119001 x119002 x119003 x119004 x119005 x119006 x119007 x119008) else (laws_FnAccess.l1 k x4 x6 x7 x8 x9 x41 x42 (wrap64 (x43 + 1)) x109000 x109001 x109002 x119000 x119001 x119002 x119003 x119004 x119005 x119006 x119007 x119008)
def laws_FnAccess.j3 : Nat → Int → Int → Int → Int → Bool → Bool → List Int → Int → Int → Int → Int → Int → Int → Int → Int → Int → Int → Int → Option (Bool)
  | 0, _, _, _, _, _, _, _, _, _, _, _, _, _, _, _, _, _, _ => none
  | k + 1, x4, x6, x7, x8, x9, x74, x109000, x109001, x109002, x119000, x119001, x119002, x119003, x119004, x119005, x119006, x119007, x119008 => if x74 = true then (some false) else ((spec_l01Src_N.f x109000 x109001 x109002 512).bind fun bt136 => (if x9 = true then ((impl_MayAccess.f x119000 x119001 (Go.bits .or .i64 x119002 bt136.1) x119003 x119004 x119005 x119006 x119007 x119008 ([] : List Int) x6 x7 x8).bind fun t139 => (laws_FnAccess.j4 k x4 x6 x7 x8 x9 (!t139) x109000 bt136.2.1 bt136.2.2 x119000 x119001 x119002 x119003 x119004 x119005 x119006 x119007 x119008)) else (laws_FnAccess.j4 k x4 x6 x7 x8 x9 false x109000 bt136.2.1 bt136.2.2 x119000 x119001 x119002 x119003 x119004 x119005 x119006 x119007 x119008)))
def laws_FnAccess.j4 : Nat → Int → Int → Int → Int → Bool → Bool → List Int → Int → Int → Int → Int → Int → Int → Int → Int → Int → Int → Int → Option (Bool)
  | 0, _, _, _, _, _, _, _, _, _, _, _, _, _, _, _, _, _, _ => none
  | k + 1, x4, x6, x7, x8, x9, x90, x109000, x109001, x109002, x119000, x119001, x119002, x119003, x119004, x119005, x119006, x119007, x119008 => if x90 = true then (some false) else (if x6 = x119003 then (laws_FnAccess.j5 k x4 x6 x7 x8 x9 6 x109000 x109001 x109002 x119000 x119001 x119002 x119003 x119004 x119005 x119006 x119007 x119008) else (if x7 = x119004 then (laws_FnAccess.j5 k x4 x6 x7 x8 x9 3 x109000 x109001 x109002 x119000 x119001 x119002 x119003 x119004 x119005 x119006 x119007 x119008) else (laws_FnAccess.j5 k x4 x6 x7 x8 x9 0 x109000 x109001 x109002 x119000 x119001 x119002 x119003 x119004 x119005 x119006 x119007 x119008)))
def laws_FnAccess.j5 : Nat → Int → Int → Int → Int → Bool → Int → List Int → Int → Int → Int → Int → Int → Int → Int → Int → Int → Int → Int → Option (Bool)
  | 0, _, _, _, _, _, _, _, _, _, _, _, _, _, _, _, _, _, _ => none
  | k + 1, x4, x6, x7, x8, x9, x13, x109000, x109001, x109002, x119000, x119001, x119002, x119003, x119004, x119005, x119006, x119007, x119008 => if 0 ≤ x13 then ((impl_MayAccess.f x119000 x119001 (Go.bits .and .i64 x119002 (shl .i64 7 x13)) x119003 x119004 x119005 x119006 x119007 x119008 ([] : List Int) x6 x7 x8).bind fun t141 => (if (t141 != x9) = true then (some false) else (laws_FnAccess.l0 k (wrap64 (x4 + 1)) x109000 x109001 x109002))) else (none)
end
def laws_FnAccess.f (k : Nat) (l0 : List Int) : Option (Bool) := if (l0.length : Int) > 1048576 then (some true) else ((spec_L01Draw.f l0).bind fun bt105 => (laws_FnAccess.l0 k 0 bt105.1 bt105.2.1 bt105.2.2))
theorem laws_FnAccess.mono_l : ∀ k, (∀ y0 y1 y2 y3, LeO (laws_FnAccess.l0 k y0 y1 y2 y3) (laws_FnAccess.l0 (k + 1) y0 y1 y2 y3)) ∧ (∀ y0 y1 y2 y3 y4 y5 y6 y7 y8 y9 y10 y11 y12 y13 y14 y15 y16 y17 y18 y19, LeO (laws_FnAccess.l1 k y0 y1 y2 y3 y4 y5 y6 y7 y8 y9 y10 y11 y12 y13 y14 y15 y16 y17 y18 y19) (laws_FnAccess.l1 (k + 1) y0 y1 y2 y3 y4 y5 y6 y7 y8 y9 y10 y11 y12 y13 y14 y15 y16 y17 y18 y19)) ∧ (∀ y0 y1 y2 y3 y4 y5 y6 y7 y8 y9 y10 y11 y12 y13 y14 y15 y16 y17 y18 y19 y20, LeO (laws_FnAccess.j2 k y0 y1 y2 y3 y4 y5 y6 y7 y8 y9 y10 y11 y12 y13 y14 y15 y16 y17 y18 y19 y20) (laws_FnAccess.j2 (k + 1) y0 y1 y2 y3 y4 y5 y6 y7 y8 y9 y10 y11 y12 y13 y14 y15 y16 y17 y18 y19 y20)) ∧ (∀ y0 y1 y2 y3 y4 y5 y6 y7 y8 y9 y10 y11 y12 y13 y14 y15 y16 y17, LeO (laws_FnAccess.j3 k y0 y1 y2 y3 y4 y5 y6 y7 y8 y9 y10 y11 y12 y13 y14 y15 y16 y17) (laws_FnAccess.j3 (k + 1) y0 y1 y2 y3 y4 y5 y6 y7 y8 y9 y10 y11 y12 y13 y14 y15 y16 y17)) ∧ (∀ y0 y1 y2 y3 y4 y5 y6 y7 y8 y9 y10 y11 y12 y13 y14 y15 y16 y17, LeO (laws_FnAccess.j4 k y0 y1 y2 y3 y4 y5 y6 y7 y8 y9 y10 y11 y12 y13 y14 y15 y16 y17) (laws_FnAccess.j4 (k + 1) y0 y1 y2 y3 y4 y5 y6 y7 y8 y9 y10 y11 y12 y13 y14 y15 y16 y17)) ∧ (∀ y0 y1 y2 y3 y4 y5 y6 y7 y8 y9 y10 y11 y12 y13 y14 y15 y16 y17, LeO (laws_FnAccess.j5 k y0 y1 y2 y3 y4 y5 y6 y7 y8 y9 y10 y11 y12 y13 y14 y15 y16 y17) (laws_FnAccess.j5 (k + 1) y0 y1 y2 y3 y4 y5 y6 y7 y8 y9 y10 y11 y12 y13 y14 y15 y16 y17))
  | 0 => ⟨fun _ _ _ _ r h => by simp [laws_FnAccess.l0] at h, fun _ _ _ _ _ _ _ _ _ _ _ _ _ _ _ _ _ _ _ _ r h => by simp [laws_FnAccess.l1] at h, fun _ _ _ _ _ _ _ _ _ _ _ _ _ _ _ _ _ _ _ _ _ r h => by simp [laws_FnAccess.j2] at h, fun _ _ _ _ _ _ _ _ _ _ _ _ _ _ _ _ _ _ r h => by simp [laws_FnAccess.j3] at h, fun _ _ _ _ _ _ _ _ _ _ _ _ _ _ _ _ _ _ r h => by simp [laws_FnAccess.j4] at h, fun _ _ _ _ _ _ _ _ _ _ _ _ _ _ _ _ _ _ r h => by simp [laws_FnAccess.j5] at h⟩
  | k + 1 => by
    obtain ⟨ih0, ih1, ih2, ih3, ih4, ih5⟩ := laws_FnAccess.mono_l k
    refine ⟨?_, ?_, ?_, ?_, ?_, ?_⟩
    · intro y0 y1 y2 y3
      unfold laws_FnAccess.l0
      repeat' first
      | (with_reducible exact ih0 _ _ _ _)
      | (with_reducible exact ih1 _ _ _ _ _ _ _ _ _ _ _ _ _ _ _ _ _ _ _ _)
      | (with_reducible exact ih2 _ _ _ _ _ _ _ _ _ _ _ _ _ _ _ _ _ _ _ _ _)
      | (with_reducible exact ih3 _ _ _ _ _ _ _ _ _ _ _ _ _ _ _ _ _ _)
      | (with_reducible exact ih4 _ _ _ _ _ _ _ _ _ _ _ _ _ _ _ _ _ _)
      | (with_reducible exact ih5 _ _ _ _ _ _ _ _ _ _ _ _ _ _ _ _ _ _)
      | (with_reducible exact LeO.refl _)
      | (with_reducible exact LeO.none _)
      | (with_reducible refine LeO.ite ?_ ?_)
      | (with_reducible refine LeO.bind ?_ (fun _ => ?_))
      | exact ih0 _ _ _ _
      | exact ih1 _ _ _ _ _ _ _ _ _ _ _ _ _ _ _ _ _ _ _ _
      | exact ih2 _ _ _ _ _ _ _ _ _ _ _ _ _ _ _ _ _ _ _ _ _
      | exact ih3 _ _ _ _ _ _ _ _ _ _ _ _ _ _ _ _ _ _
      | exact ih4 _ _ _ _ _ _ _ _ _ _ _ _ _ _ _ _ _ _
      | exact ih5 _ _ _ _ _ _ _ _ _ _ _ _ _ _ _ _ _ _
      | exact LeO.none _
      | refine LeO.ite ?_ ?_
      | refine LeO.bind ?_ (fun _ => ?_)
    · intro y0 y1 y2 y3 y4 y5 y6 y7 y8 y9 y10 y11 y12 y13 y14 y15 y16 y17 y18 y19
      unfold laws_FnAccess.l1
      repeat' first
      | (with_reducible exact ih0 _ _ _ _)
      | (with_reducible exact ih1 _ _ _ _ _ _ _ _ _ _ _ _ _ _ _ _ _ _ _ _)
      | (with_reducible exact ih2 _ _ _ _ _ _ _ _ _ _ _ _ _ _ _ _ _ _ _ _ _)
      | (with_reducible exact ih3 _ _ _ _ _ _ _ _ _ _ _ _ _ _ _ _ _ _)
      | (with_reducible exact ih4 _ _ _ _ _ _ _ _ _ _ _ _ _ _ _ _ _ _)
      | (with_reducible exact ih5 _ _ _ _ _ _ _ _ _ _ _ _ _ _ _ _ _ _)
      | (with_reducible exact LeO.refl _)
      | (with_reducible exact LeO.none _)
      | (with_reducible refine LeO.ite ?_ ?_)
      | (with_reducible refine LeO.bind ?_ (fun _ => ?_))
      | exact ih0 _ _ _ _
      | exact ih1 _ _ _ _ _ _ _ _ _ _ _ _ _ _ _ _ _ _ _ _
      | exact ih2 _ _ _ _ _ _ _ _ _ _ _ _ _ _ _ _ _ _ _ _ _
      | exact ih3 _ _ _ _ _ _ _ _ _ _ _ _ _ _ _ _ _ _
      | exact ih4 _ _ _ _ _ _ _ _ _ _ _ _ _ _ _ _ _ _
      | exact ih5 _ _ _ _ _ _ _ _ _ _ _ _ _ _ _ _ _ _
      | exact LeO.none _
      | refine LeO.ite ?_ ?_
      | refine LeO.bind ?_ (fun _ => ?_)
    · intro y0 y1 y2 y3 y4 y5 y6 y7 y8 y9 y10 y11 y12 y13 y14 y15 y16 y17 y18 y19 y20
      unfold laws_FnAccess.j2
      repeat' first
      | (with_reducible exact ih0 _ _ _ _)
      | (with_reducible exact ih1 _ _ _ _ _ _ _ _ _ _ _ _ _ _ _ _ _ _ _ _)
      | (with_reducible exact ih2 _ _ _ _ _ _ _ _ _ _ _ _ _ _ _ _ _ _ _ _ _)
      | (with_reducible exact ih3 _ _ _ _ _ _ _ _ _ _ _ _ _ _ _ _ _ _)
      | (with_reducible exact ih4 _ _ _ _ _ _ _ _ _ _ _ _ _ _ _ _ _ _)
      | (with_reducible exact ih5 _ _ _ _ _ _ _ _ _ _ _ _ _ _ _ _ _ _)
      | (with_reducible exact LeO.refl _)
      | (with_reducible exact LeO.none _)
      | (with_reducible refine LeO.ite ?_ ?_)
      | (with_reducible refine LeO.bind ?_ (fun _ => ?_))
      | exact ih0 _ _ _ _
      | exact ih1 _ _ _ _ _ _ _ _ _ _ _ _ _ _ _ _ _ _ _ _
      | exact ih2 _ _ _ _ _ _ _ _ _ _ _ _ _ _ _ _ _ _ _ _ _
      | exact ih3 _ _ _ _ _ _ _ _ _ _ _ _ _ _ _ _ _ _
      | exact ih4 _ _ _ _ _ _ _ _ _ _ _ _ _ _ _ _ _ _
      | exact ih5 _ _ _ _ _ _ _ _ _ _ _ _ _ _ _ _ _ _
      | exact LeO.none _
      | refine LeO.ite ?_ ?_
      | refine LeO.bind ?_ (fun _ => ?_)
    · intro y0 y1 y2 y3 y4 y5 y6 y7 y8 y9 y10 y11 y12 y13 y14 y15 y16 y17
      unfold laws_FnAccess.j3
      repeat' first
      | (with_reducible exact ih0 _ _ _ _)
      | (with_reducible exact ih1 _ _ _ _ _ _ _ _ _ _ _ _ _ _ _ _ _ _ _ _)
      | (with_reducible exact ih2 _ _ _ _ _ _ _ _ _ _ _ _ _ _ _ _ _ _ _ _ _)
      | (with_reducible exact ih3 _ _ _ _ _ _ _ _ _ _ _ _ _ _ _ _ _ _)
      | (with_reducible exact ih4 _ _ _ _ _ _ _ _ _ _ _ _ _ _ _ _ _ _)
      | (with_reducible exact ih5 _ _ _ _ _ _ _ _ _ _ _ _ _ _ _ _ _ _)
      | (with_reducible exact LeO.refl _)
      | (with_reducible exact LeO.none _)
      | (with_reducible refine LeO.ite ?_ ?_)
      | (with_reducible refine LeO.bind ?_ (fun _ => ?_))
      | exact ih0 _ _ _ _
      | exact ih1 _ _ _ _ _ _ _ _ _ _ _ _ _ _ _ _ _ _ _ _
      | exact ih2 _ _ _ _ _ _ _ _ _ _ _ _ _ _ _ _ _ _ _ _ _
      | exact ih3 _ _ _ _ _ _ _ _ _ _ _ _ _ _ _ _ _ _
      | exact ih4 _ _ _ _ _ _ _ _ _ _ _ _ _ _ _ _ _ _
      | exact ih5 _ _ _ _ _ _ _ _ _ _ _ _ _ _ _ _ _ _
      | exact LeO.none _
      | refine LeO.ite ?_ ?_
      | refine LeO.bind ?_ (fun _ => ?_)
    · intro y0 y1 y2 y3 y4 y5 y6 y7 y8 y9 y10 y11 y12 y13 y14 y15 y16 y17
      unfold laws_FnAccess.j4
      repeat' first
      | (with_reducible exact ih0 _ _ _ _)
      | (with_reducible exact ih1 _ _ _ _ _ _ _ _ _ _ _ _ _ _ _ _ _ _ _ _)
      | (with_reducible exact ih2 _ _ _ _ _ _ _ _ _ _ _ _ _ _ _ _ _ _ _ _ _)
      | (with_reducible exact ih3 _ _ _ _ _ _ _ _ _ _ _ _ _ _ _ _ _ _)
      | (with_reducible exact ih4 _ _ _ _ _ _ _ _ _ _ _ _ _ _ _ _ _ _)
      | (with_reducible exact ih5 _ _ _ _ _ _ _ _ _ _ _ _ _ _ _ _ _ _)
      | (with_reducible exact LeO.refl _)
      | (with_reducible exact LeO.none _)
      | (with_reducible refine LeO.ite ?_ ?_)
      | (with_reducible refine LeO.bind ?_ (fun _ => ?_))
      | exact ih0 _ _ _ _
      | exact ih1 _ _ _ _ _ _ _ _ _ _ _ _ _ _ _ _ _ _ _ _
      | exact ih2 _ _ _ _ _ _ _ _ _ _ _ _ _ _ _ _ _ _ _ _ _
      | exact ih3 _ _ _ _ _ _ _ _ _ _ _ _ _ _ _ _ _ _
      | exact ih4 _ _ _ _ _ _ _ _ _ _ _ _ _ _ _ _ _ _
      | exact ih5 _ _ _ _ _ _ _ _ _ _ _ _ _ _ _ _ _ _
      | exact LeO.none _
      | refine LeO.ite ?_ ?_
      | refine LeO.bind ?_ (fun _ => ?_)
    · intro y0 y1 y2 y3 y4 y5 y6 y7 y8 y9 y10 y11 y12 y13 y14 y15 y16 y17
      unfold laws_FnAccess.j5
      repeat' first
      | (with_reducible exact ih0 _ _ _ _)
      | (with_reducible exact ih1 _ _ _ _ _ _ _ _ _ _ _ _ _ _ _ _ _ _ _ _)
      | (with_reducible exact ih2 _ _ _ _ _ _ _ _ _ _ _ _ _ _ _ _ _ _ _ _ _)
      | (with_reducible exact ih3 _ _ _ _ _ _ _ _ _ _ _ _ _ _ _ _ _ _)
      | (with_reducible exact ih4 _ _ _ _ _ _ _ _ _ _ _ _ _ _ _ _ _ _)
      | (with_reducible exact ih5 _ _ _ _ _ _ _ _ _ _ _ _ _ _ _ _ _ _)
      | (with_reducible exact LeO.refl _)
      | (with_reducible exact LeO.none _)
      | (with_reducible refine LeO.ite ?_ ?_)
      | (with_reducible refine LeO.bind ?_ (fun _ => ?_))
      | exact ih0 _ _ _ _
      | exact ih1 _ _ _ _ _ _ _ _ _ _ _ _ _ _ _ _ _ _ _ _
      | exact ih2 _ _ _ _ _ _ _ _ _ _ _ _ _ _ _ _ _ _ _ _ _
      | exact ih3 _ _ _ _ _ _ _ _ _ _ _ _ _ _ _ _ _ _
      | exact ih4 _ _ _ _ _ _ _ _ _ _ _ _ _ _ _ _ _ _
      | exact ih5 _ _ _ _ _ _ _ _ _ _ _ _ _ _ _ _ _ _
      | exact LeO.none _
      | refine LeO.ite ?_ ?_
      | refine LeO.bind ?_ (fun _ => ?_)
theorem laws_FnAccess.mono : ∀ a0 k, LeO (laws_FnAccess.f k a0) (laws_FnAccess.f (k + 1) a0) := by
  intro a0 k
  obtain ⟨ih0, ih1, ih2, ih3, ih4, ih5⟩ := laws_FnAccess.mono_l k
  unfold laws_FnAccess.f
  repeat' first
      | (with_reducible exact ih0 _ _ _ _)
      | (with_reducible exact ih1 _ _ _ _ _ _ _ _ _ _ _ _ _ _ _ _ _ _ _ _)
      | (with_reducible exact ih2 _ _ _ _ _ _ _ _ _ _ _ _ _ _ _ _ _ _ _ _ _)
      | (with_reducible exact ih3 _ _ _ _ _ _ _ _ _ _ _ _ _ _ _ _ _ _)
      | (with_reducible exact ih4 _ _ _ _ _ _ _ _ _ _ _ _ _ _ _ _ _ _)
      | (with_reducible exact ih5 _ _ _ _ _ _ _ _ _ _ _ _ _ _ _ _ _ _)
      | (with_reducible exact LeO.refl _)
      | (with_reducible exact LeO.none _)
      | (with_reducible refine LeO.ite ?_ ?_)
      | (with_reducible refine LeO.bind ?_ (fun _ => ?_))
      | exact ih0 _ _ _ _
      | exact ih1 _ _ _ _ _ _ _ _ _ _ _ _ _ _ _ _ _ _ _ _
      | exact ih2 _ _ _ _ _ _ _ _ _ _ _ _ _ _ _ _ _ _ _ _ _
      | exact ih3 _ _ _ _ _ _ _ _ _ _ _ _ _ _ _ _ _ _
      | exact ih4 _ _ _ _ _ _ _ _ _ _ _ _ _ _ _ _ _ _
      | exact ih5 _ _ _ _ _ _ _ _ _ _ _ _ _ _ _ _ _ _
      | exact LeO.none _
      | refine LeO.ite ?_ ?_
      | refine LeO.bind ?_ (fun _ => ?_)
set_option maxHeartbeats 8000000 in
set_option maxRecDepth 100000 in
theorem laws_FnAccess.calls (k : Nat) (A0 : Option Addr) (c0 : Nat) (l0 : List Int) (r : Bool) (w : World) (hr0 : Kd.C (Kd.int .u8) w A0 l0.length l0) (hc0 : l0.length ≤ c0) (h : laws_FnAccess.f k l0 = some r) :
    Calls Try.prog 6 #[.slice A0 l0.length c0] w fun e w' => e = .returned (.bool r) ∧ Below w.heap.size w w' := by
  have hu31 := Try.underlying31
  have HR0 := Aside0.mk hr0
  have HC0 := Aside0.mk hc0
  clear hr0 hc0
  have HB := Aside0.mk (Below.refl w.heap.size w)
  have H : (if (l0.length : Int) > 1048576 then (some true) else ((spec_L01Draw.f l0).bind fun bt105 => (laws_FnAccess.l0 k 0 bt105.1 bt105.2.1 bt105.2.2))) = some r := h
  clear h
  by_cases c2 : (l0.length : Int) > 1048576
  · rw [if_pos c2] at H
    have c2b0 : decide (1048576 < (l0.length : Int)) = true := decide_eq_true c2
    have c2b1 : decide (1048576 < l0.length) = true := decide_eq_true (by omega)
    clear c2
    obtain rfl := Option.some.inj H
    go_enter Try.func6, Try.ntmps6
    go_wp2
    go_ret
    exact ⟨by first | rfl | (simp [errW_none, errW_some] <;> rfl) | (simp [*, errW_none, errW_some] <;> rfl), by repeat (first | (with_reducible first | exact HB.out | apply below_alloc | apply pw_below_drewN | apply below_drew1) | exact HB.out)⟩
  · rw [if_neg c2] at H
    have c2b0 : decide (1048576 < (l0.length : Int)) = false := decide_eq_false c2
    have c2b1 : decide (1048576 < l0.length) = false := decide_eq_false (by omega)
    clear c2
    replace H := Option.bind_eq_some_iff.mp H
    obtain ⟨⟨t105, t106, t107⟩, A30, H⟩ := H
    replace H : (laws_FnAccess.l0 k 0 t105 t106 t107) = some r := H
    have A3 := Aside0.mk A30
    clear A30
    have H' := Aside0.mk H
    clear H
    go_enter Try.func6, Try.ntmps6
    go_wp2_with (first | ((with_reducible refine gate_callee (f := 19) rfl ?_); refine goesL_ (some 19) rfl rfl Try.func19 (by kernel_rfl) rfl #[.slice A0 l0.length c0] rfl (by (try simp only [List.map_toArray, List.map_cons, List.map_nil]); first | done | rfl | (simp only [List.length_drop, List.length_take]; rfl)) ?_; (with_reducible refine (spec_L01Draw.calls _ _ l0 t105 t106 t107 w _ ?side1 ?side2 ?side3 A3.out).mono ?_); (case side1 => repeat (first | (with_reducible first | exact HB.out | apply below_alloc | apply pw_below_drewN | apply below_drew1) | exact HB.out)); (case side2 => exact HR0.out); (case side3 => exact HC0.out); rintro e w4 ⟨g108, rfl, hi, hb, hb2⟩; refine ⟨_, rfl, ?_⟩; have n0_ := Aside0.mk (hb); have n1_ := Aside0.mk (hi); clear HB; have HB := n0_; have HI108 := n1_; clear n0_ n1_; (try clear hb); (try clear hb2); (try clear hk); (try clear hi)))
    go_loopg [4] k (fun kq v4 w' => ∃ (x4_1 : Int) (x109001_1 : Int) (x109002_1 : Int), v4 = .int .i64 x4_1 ∧ Aside0 (laws_FnAccess.l0 kq x4_1 t105 x109001_1 x109002_1 = some r) ∧ Aside0 (kq ≤ k) ∧ Aside0 (IsS68 w w' g108 t105 x109001_1 x109002_1) ∧ Aside0 (Below w.heap.size w w'))
    case atStart => exact ⟨(0), (t106), (t107), (by first | rfl | (simp; done) | (simp [*]; done)), H', ⟨Nat.le_refl _⟩, ⟨by repeat (first | (with_reducible first | exact HI108.out | apply IsS68.alloc | apply IsS68.drewN | apply IsS68.drew | apply IsS68.set_1 | apply IsS68.set_2) | exact HI108.out)⟩, ⟨by repeat (first | (with_reducible first | exact HB.out | apply below_alloc | apply pw_below_drewN | apply below_drew1 | refine below_set ?_ (IsS68.ge HI108.out)) | exact HB.out)⟩⟩
    case round =>
      clear H'
      try clear c1
      try clear c2
      try clear c2b0
      try clear c2b1
      try clear p2
      obtain ⟨x4_1, x109001_1, x109002_1, rfl, HA, HK1, HI108, HB⟩ := hrel
      cases gk with
      | zero => exact absurd HA.out (by simp [laws_FnAccess.l0])
      | succ k1 =>
        have H := HA.out
        clear HA
        simp only [laws_FnAccess.l0] at H
        by_cases c5 : x4_1 < 20
        · rw [if_pos c5] at H
          have c5b0 : decide (x4_1 < 20) = true := decide_eq_true c5
          clear c5
          replace H := Option.bind_eq_some_iff.mp H
          obtain ⟨⟨t109, t110, t111⟩, A60, H⟩ := H
          replace H : ((spec_l01Src_N.f t105 t110 t111 3).bind fun bt112 => ((spec_l01Src_N.f t105 bt112.2.1 bt112.2.2 3).bind fun bt115 => ((spec_l01Src_N.f t105 bt115.2.1 bt115.2.2 3).bind fun bt119 => ((spec_l01Src_N.f t105 bt119.2.1 bt119.2.2 3).bind fun bt122 => ((spec_l01Src_N.f t105 bt122.2.1 bt122.2.2 8).bind fun bt125 => ((some (([1, 2, 4] : List Int) : List Int)).bind fun y128 => (laws_FnAccess.l1 k1 x4_1 (wrap64 (1 + bt119.1)) (wrap64 (1 + bt122.1)) bt125.1 true y128 (y128.length : Int) 0 t105 bt125.2.1 bt125.2.2 0 0 t109 (wrap64 (1 + bt112.1)) (wrap64 (1 + bt115.1)) 0 0 0 0))))))) = some r := H
          have A6 := Aside0.mk A60
          clear A60
          replace H := Option.bind_eq_some_iff.mp H
          obtain ⟨⟨t112, t113, t114⟩, A70, H⟩ := H
          replace H : ((spec_l01Src_N.f t105 t113 t114 3).bind fun bt115 => ((spec_l01Src_N.f t105 bt115.2.1 bt115.2.2 3).bind fun bt119 => ((spec_l01Src_N.f t105 bt119.2.1 bt119.2.2 3).bind fun bt122 => ((spec_l01Src_N.f t105 bt122.2.1 bt122.2.2 8).bind fun bt125 => ((some (([1, 2, 4] : List Int) : List Int)).bind fun y128 => (laws_FnAccess.l1 k1 x4_1 (wrap64 (1 + bt119.1)) (wrap64 (1 + bt122.1)) bt125.1 true y128 (y128.length : Int) 0 t105 bt125.2.1 bt125.2.2 0 0 t109 (wrap64 (1 + t112)) (wrap64 (1 + bt115.1)) 0 0 0 0)))))) = some r := H
          have A7 := Aside0.mk A70
          clear A70
          replace H := Option.bind_eq_some_iff.mp H
          obtain ⟨⟨t115, t116, t117⟩, A80, H⟩ := H
          replace H : ((spec_l01Src_N.f t105 t116 t117 3).bind fun bt119 => ((spec_l01Src_N.f t105 bt119.2.1 bt119.2.2 3).bind fun bt122 => ((spec_l01Src_N.f t105 bt122.2.1 bt122.2.2 8).bind fun bt125 => ((some (([1, 2, 4] : List Int) : List Int)).bind fun y128 => (laws_FnAccess.l1 k1 x4_1 (wrap64 (1 + bt119.1)) (wrap64 (1 + bt122.1)) bt125.1 true y128 (y128.length : Int) 0 t105 bt125.2.1 bt125.2.2 0 0 t109 (wrap64 (1 + t112)) (wrap64 (1 + t115)) 0 0 0 0))))) = some r := H
          have A8 := Aside0.mk A80
          clear A80
          replace H := Option.bind_eq_some_iff.mp H
          obtain ⟨⟨t119, t120, t121⟩, A90, H⟩ := H
          replace H : ((spec_l01Src_N.f t105 t120 t121 3).bind fun bt122 => ((spec_l01Src_N.f t105 bt122.2.1 bt122.2.2 8).bind fun bt125 => ((some (([1, 2, 4] : List Int) : List Int)).bind fun y128 => (laws_FnAccess.l1 k1 x4_1 (wrap64 (1 + t119)) (wrap64 (1 + bt122.1)) bt125.1 true y128 (y128.length : Int) 0 t105 bt125.2.1 bt125.2.2 0 0 t109 (wrap64 (1 + t112)) (wrap64 (1 + t115)) 0 0 0 0)))) = some r := H
          have A9 := Aside0.mk A90
          clear A90
          replace H := Option.bind_eq_some_iff.mp H
          obtain ⟨⟨t122, t123, t124⟩, A100, H⟩ := H
          replace H : ((spec_l01Src_N.f t105 t123 t124 8).bind fun bt125 => ((some (([1, 2, 4] : List Int) : List Int)).bind fun y128 => (laws_FnAccess.l1 k1 x4_1 (wrap64 (1 + t119)) (wrap64 (1 + t122)) bt125.1 true y128 (y128.length : Int) 0 t105 bt125.2.1 bt125.2.2 0 0 t109 (wrap64 (1 + t112)) (wrap64 (1 + t115)) 0 0 0 0))) = some r := H
          have A10 := Aside0.mk A100
          clear A100
          replace H := Option.bind_eq_some_iff.mp H
          obtain ⟨⟨t125, t126, t127⟩, A110, H⟩ := H
          replace H : ((some (([1, 2, 4] : List Int) : List Int)).bind fun y128 => (laws_FnAccess.l1 k1 x4_1 (wrap64 (1 + t119)) (wrap64 (1 + t122)) t125 true y128 (y128.length : Int) 0 t105 t126 t127 0 0 t109 (wrap64 (1 + t112)) (wrap64 (1 + t115)) 0 0 0 0)) = some r := H
          have A11 := Aside0.mk A110
          clear A110
          obtain ⟨y128, hy128⟩ : ∃ y_ : List Int, y_ = (([1, 2, 4] : List Int)) := ⟨_, rfl⟩
          replace H : (laws_FnAccess.l1 k1 x4_1 (wrap64 (1 + t119)) (wrap64 (1 + t122)) t125 true y128 (y128.length : Int) 0 t105 t126 t127 0 0 t109 (wrap64 (1 + t112)) (wrap64 (1 + t115)) 0 0 0 0) = some r := by first | (rw [hy128]; with_reducible exact H) | (have H2_ := (Option.bind_some _ _).symm.trans H; rw [hy128]; with_reducible exact H2_) | (have H2_ := (Option.bind_some _ _).symm.trans H; with_reducible exact H2_) | with_reducible exact H | (rw [hy128]; exact H) | exact H
          have Ny128 := Aside0.mk hy128
          clear hy128
          have H' := Aside0.mk H
          clear H
          go_wp2_with (first | ((with_reducible refine gate_callee (f := 20) rfl ?_); refine goesL_ (some 25) rfl rfl Try.func20 (by kernel_rfl) rfl #[.pointer (some ⟨g108, 0, none⟩), .int .i64 512] rfl (by (try simp only [List.map_toArray, List.map_cons, List.map_nil]); first | done | rfl | (simp only [List.length_drop, List.length_take]; rfl)) ?_; (with_reducible refine (spec_l01Src_N.calls g108 t105 x109001_1 x109002_1 512 t109 t110 t111 w _ ?side1 ?side2 A6.out).mono ?_); (case side1 => repeat (first | (with_reducible first | exact HI108.out | apply IsS68.alloc | apply IsS68.drewN | apply IsS68.drew | apply IsS68.set_1 | apply IsS68.set_2) | exact HI108.out)); (case side2 => repeat (first | (with_reducible first | exact HB.out | apply below_alloc | apply pw_below_drewN | apply below_drew1 | refine below_set ?_ (IsS68.ge HI108.out)) | exact HB.out)); rintro e w12 ⟨rfl, hi, hb, hk⟩; refine ⟨_, rfl, ?_⟩; have n0_ := Aside0.mk (hb); have n1_ := Aside0.mk (hi); clear HB; clear HI108; have HB := n0_; have HI108 := n1_; clear n0_ n1_; (try clear hb); (try clear hb2); (try clear hk); (try clear hi)) | ((with_reducible refine gate_callee (f := 20) rfl ?_); refine goesL_ (some 27) rfl rfl Try.func20 (by kernel_rfl) rfl #[.pointer (some ⟨g108, 0, none⟩), .int .i64 3] rfl (by (try simp only [List.map_toArray, List.map_cons, List.map_nil]); first | done | rfl | (simp only [List.length_drop, List.length_take]; rfl)) ?_; (with_reducible refine (spec_l01Src_N.calls g108 t105 t110 t111 3 t112 t113 t114 w _ ?side1 ?side2 A7.out).mono ?_); (case side1 => repeat (first | (with_reducible first | exact HI108.out | apply IsS68.alloc | apply IsS68.drewN | apply IsS68.drew | apply IsS68.set_1 | apply IsS68.set_2) | exact HI108.out)); (case side2 => repeat (first | (with_reducible first | exact HB.out | apply below_alloc | apply pw_below_drewN | apply below_drew1 | refine below_set ?_ (IsS68.ge HI108.out)) | exact HB.out)); rintro e w13 ⟨rfl, hi, hb, hk⟩; refine ⟨_, rfl, ?_⟩; have n0_ := Aside0.mk (hb); have n1_ := Aside0.mk (hi); clear HB; clear HI108; have HB := n0_; have HI108 := n1_; clear n0_ n1_; (try clear hb); (try clear hb2); (try clear hk); (try clear hi)) | ((with_reducible refine gate_callee (f := 20) rfl ?_); refine goesL_ (some 30) rfl rfl Try.func20 (by kernel_rfl) rfl #[.pointer (some ⟨g108, 0, none⟩), .int .i64 3] rfl (by (try simp only [List.map_toArray, List.map_cons, List.map_nil]); first | done | rfl | (simp only [List.length_drop, List.length_take]; rfl)) ?_; (with_reducible refine (spec_l01Src_N.calls g108 t105 t113 t114 3 t115 t116 t117 w _ ?side1 ?side2 A8.out).mono ?_); (case side1 => repeat (first | (with_reducible first | exact HI108.out | apply IsS68.alloc | apply IsS68.drewN | apply IsS68.drew | apply IsS68.set_1 | apply IsS68.set_2) | exact HI108.out)); (case side2 => repeat (first | (with_reducible first | exact HB.out | apply below_alloc | apply pw_below_drewN | apply below_drew1 | refine below_set ?_ (IsS68.ge HI108.out)) | exact HB.out)); rintro e w14 ⟨rfl, hi, hb, hk⟩; refine ⟨_, rfl, ?_⟩; have n0_ := Aside0.mk (hb); have n1_ := Aside0.mk (hi); clear HB; clear HI108; have HB := n0_; have HI108 := n1_; clear n0_ n1_; (try clear hb); (try clear hb2); (try clear hk); (try clear hi)) | ((with_reducible refine gate_dst (N := 5) rfl ?_); refine box_event ?hg (N := 5) ?hd (cs := #[.int .i64 0, .int .i64 0, .int .i64 0, .int .i64 0, .int .i64 0, .int .i64 0, .int .i64 0, .int .i64 0, .int .i64 0, .slice none 0 0]) (t := 31) ?hr ?_; (case hd => rfl); (case hg => rfl); (case hr => first | (go_simp; done) | (go_simp; rfl)); intro gb118 hg w15 hbox hb; have n0_ := Aside0.mk (IsS68.below (by repeat (first | (with_reducible first | exact HI108.out | apply IsS68.alloc | apply IsS68.drewN | apply IsS68.drew | apply IsS68.set_1 | apply IsS68.set_2) | exact HI108.out)) hb); have n1_ := Aside0.mk (below_step (by repeat (first | (with_reducible first | exact HB.out | apply below_alloc | apply pw_below_drewN | apply below_drew1 | refine below_set ?_ (IsS68.ge HI108.out)) | exact HB.out)) hb); have n2_ := Aside0.mk (hbox); have n3_ := Aside0.mk ((by rw [hg]; exact (below_size (by repeat (first | (with_reducible first | exact HB.out | apply below_alloc | apply pw_below_drewN | apply below_drew1 | refine below_set ?_ (IsS68.ge HI108.out)) | exact HB.out))) : w.heap.size ≤ gb118)); have n4_ := Aside0.mk ((by rw [hg]; exact (below_size (by repeat (first | (with_reducible first | exact HB.out | apply below_alloc | apply pw_below_drewN | apply below_drew1 | refine below_set ?_ (IsS68.ge HI108.out)) | exact HB.out))) : w.heap.size ≤ gb118)); have n5_ := Aside0.mk ((by rw [hg]; exact Nat.ne_of_lt (IsS68.lt (show IsS68 w _ g108 t105 t116 t117 from by repeat (first | (with_reducible first | exact HI108.out | apply IsS68.alloc | apply IsS68.drewN | apply IsS68.drew | apply IsS68.set_1 | apply IsS68.set_2) | exact HI108.out))) : g108 ≠ gb118)); have n6_ := Aside0.mk ((by rw [hg]; exact Nat.ne_of_gt (IsS68.lt (show IsS68 w _ g108 t105 t116 t117 from by repeat (first | (with_reducible first | exact HI108.out | apply IsS68.alloc | apply IsS68.drewN | apply IsS68.drew | apply IsS68.set_1 | apply IsS68.set_2) | exact HI108.out))) : gb118 ≠ g108)); clear HI108; clear HB; have HI108 := n0_; have HB := n1_; have BK118 := n2_; have GW118 := n3_; have GE118 := n4_; have NB108_118 := n5_; have NB118_108 := n6_; clear n0_ n1_ n2_ n3_ n4_ n5_ n6_; clear hb hbox hg; have hnb16 := NB118_108.out; have hnc16 := NB108_118.out; have hcz17_0 : w15.cell? ⟨gb118, 0, none⟩ = some (.int .i64 0) := (blk_cell BK118.out 0).trans rfl; have hcz17_1 : w15.cell? ⟨gb118, 1, none⟩ = some (.int .i64 0) := (blk_cell BK118.out 1).trans rfl; have hcz17_2 : w15.cell? ⟨gb118, 2, none⟩ = some (.int .i64 0) := (blk_cell BK118.out 2).trans rfl; have hcz17_3 : w15.cell? ⟨gb118, 3, none⟩ = some (.int .i64 0) := (blk_cell BK118.out 3).trans rfl; have hcz17_4 : w15.cell? ⟨gb118, 4, none⟩ = some (.int .i64 0) := (blk_cell BK118.out 4).trans rfl; have hcz17_5 : w15.cell? ⟨gb118, 5, none⟩ = some (.int .i64 0) := (blk_cell BK118.out 5).trans rfl; have hcz17_6 : w15.cell? ⟨gb118, 6, none⟩ = some (.int .i64 0) := (blk_cell BK118.out 6).trans rfl; have hcz17_7 : w15.cell? ⟨gb118, 7, none⟩ = some (.int .i64 0) := (blk_cell BK118.out 7).trans rfl; have hcz17_8 : w15.cell? ⟨gb118, 8, none⟩ = some (.int .i64 0) := (blk_cell BK118.out 8).trans rfl; have hcz17_9 : w15.cell? ⟨gb118, 9, none⟩ = some (.slice none 0 0) := (blk_cell BK118.out 9).trans rfl; have hfz17_0 := blk_frozen BK118.out 0; have hfz17_1 := blk_frozen BK118.out 1; have hfz17_2 := blk_frozen BK118.out 2; have hfz17_3 := blk_frozen BK118.out 3; have hfz17_4 := blk_frozen BK118.out 4; have hfz17_5 := blk_frozen BK118.out 5; have hfz17_6 := blk_frozen BK118.out 6; have hfz17_7 := blk_frozen BK118.out 7; have hfz17_8 := blk_frozen BK118.out 8; have hfz17_9 := blk_frozen BK118.out 9) | ((with_reducible refine gate_callee (f := 20) rfl ?_); refine goesL_ (some 34) rfl rfl Try.func20 (by kernel_rfl) rfl #[.pointer (some ⟨g108, 0, none⟩), .int .i64 3] rfl (by (try simp only [List.map_toArray, List.map_cons, List.map_nil]); first | done | rfl | (simp only [List.length_drop, List.length_take]; rfl)) ?_; (with_reducible refine (spec_l01Src_N.calls g108 t105 t116 t117 3 t119 t120 t121 w _ ?side1 ?side2 A9.out).mono ?_); (case side1 => repeat (first | (with_reducible first | exact HI108.out | apply IsS68.alloc | apply IsS68.drewN | apply IsS68.drew | apply IsS68.set_1 | apply IsS68.set_2 | refine IsS68.far ?_ NB108_118.out _) | exact HI108.out)); (case side2 => repeat (first | (with_reducible first | exact HB.out | apply below_alloc | apply pw_below_drewN | apply below_drew1 | refine below_set ?_ (IsS68.ge HI108.out) | refine below_set ?_ GE118.out) | exact HB.out)); rintro e w18 ⟨rfl, hi, hb, hk⟩; refine ⟨_, rfl, ?_⟩; have n0_ := Aside0.mk (KeepBut.blk hk (g' := gb118) (o := .cells #[.int .i64 0, .int .i64 0, .int .i64 t109, .int .i64 (wrap64 (1 + t112)), .int .i64 (wrap64 (1 + t115)), .int .i64 0, .int .i64 0, .int .i64 0, .int .i64 0, .slice none 0 0] 31 (0, 0)) (by (with_reducible repeat (first | refine blk_drewN ?_ _ | refine blk_drew ?_ | refine blk_alloc ?_ _)); refine blk_put (cs := #[.int .i64 0, .int .i64 0, .int .i64 t109, .int .i64 (wrap64 (1 + t112)), .int .i64 (wrap64 (1 + t115)), .int .i64 0, .int .i64 0, .int .i64 0, .int .i64 0, .slice none 0 0]) ?_ 9 _ rfl; (with_reducible repeat (first | refine blk_drewN ?_ _ | refine blk_drew ?_ | refine blk_alloc ?_ _)); refine blk_put (cs := #[.int .i64 0, .int .i64 0, .int .i64 t109, .int .i64 (wrap64 (1 + t112)), .int .i64 (wrap64 (1 + t115)), .int .i64 0, .int .i64 0, .int .i64 0, .int .i64 0, .slice none 0 0]) ?_ 8 _ rfl; (with_reducible repeat (first | refine blk_drewN ?_ _ | refine blk_drew ?_ | refine blk_alloc ?_ _)); refine blk_put (cs := #[.int .i64 0, .int .i64 0, .int .i64 t109, .int .i64 (wrap64 (1 + t112)), .int .i64 (wrap64 (1 + t115)), .int .i64 0, .int .i64 0, .int .i64 0, .int .i64 0, .slice none 0 0]) ?_ 7 _ rfl; (with_reducible repeat (first | refine blk_drewN ?_ _ | refine blk_drew ?_ | refine blk_alloc ?_ _)); refine blk_put (cs := #[.int .i64 0, .int .i64 0, .int .i64 t109, .int .i64 (wrap64 (1 + t112)), .int .i64 (wrap64 (1 + t115)), .int .i64 0, .int .i64 0, .int .i64 0, .int .i64 0, .slice none 0 0]) ?_ 6 _ rfl; (with_reducible repeat (first | refine blk_drewN ?_ _ | refine blk_drew ?_ | refine blk_alloc ?_ _)); refine blk_put (cs := #[.int .i64 0, .int .i64 0, .int .i64 t109, .int .i64 (wrap64 (1 + t112)), .int .i64 (wrap64 (1 + t115)), .int .i64 0, .int .i64 0, .int .i64 0, .int .i64 0, .slice none 0 0]) ?_ 5 _ rfl; (with_reducible repeat (first | refine blk_drewN ?_ _ | refine blk_drew ?_ | refine blk_alloc ?_ _)); refine blk_put (cs := #[.int .i64 0, .int .i64 0, .int .i64 t109, .int .i64 (wrap64 (1 + t112)), .int .i64 0, .int .i64 0, .int .i64 0, .int .i64 0, .int .i64 0, .slice none 0 0]) ?_ 4 _ rfl; (with_reducible repeat (first | refine blk_drewN ?_ _ | refine blk_drew ?_ | refine blk_alloc ?_ _)); refine blk_put (cs := #[.int .i64 0, .int .i64 0, .int .i64 t109, .int .i64 0, .int .i64 0, .int .i64 0, .int .i64 0, .int .i64 0, .int .i64 0, .slice none 0 0]) ?_ 3 _ rfl; (with_reducible repeat (first | refine blk_drewN ?_ _ | refine blk_drew ?_ | refine blk_alloc ?_ _)); refine blk_put (cs := #[.int .i64 0, .int .i64 0, .int .i64 0, .int .i64 0, .int .i64 0, .int .i64 0, .int .i64 0, .int .i64 0, .int .i64 0, .slice none 0 0]) ?_ 2 _ rfl; (with_reducible repeat (first | refine blk_drewN ?_ _ | refine blk_drew ?_ | refine blk_alloc ?_ _)); refine blk_put (cs := #[.int .i64 0, .int .i64 0, .int .i64 0, .int .i64 0, .int .i64 0, .int .i64 0, .int .i64 0, .int .i64 0, .int .i64 0, .slice none 0 0]) ?_ 1 _ rfl; (with_reducible repeat (first | refine blk_drewN ?_ _ | refine blk_drew ?_ | refine blk_alloc ?_ _)); refine blk_put (cs := #[.int .i64 0, .int .i64 0, .int .i64 0, .int .i64 0, .int .i64 0, .int .i64 0, .int .i64 0, .int .i64 0, .int .i64 0, .slice none 0 0]) ?_ 0 _ rfl; (with_reducible repeat (first | refine blk_drewN ?_ _ | refine blk_drew ?_ | refine blk_alloc ?_ _)); exact BK118.out) NB118_108.out (by simp)); have n1_ := Aside0.mk (hb); have n2_ := Aside0.mk (hi); clear BK118; clear HB; clear HI108; have BK118 := n0_; have HB := n1_; have HI108 := n2_; clear n0_ n1_ n2_; (try clear hb); (try clear hb2); (try clear hk); (try clear hi)) | ((with_reducible refine gate_callee (f := 20) rfl ?_); refine goesL_ (some 37) rfl rfl Try.func20 (by kernel_rfl) rfl #[.pointer (some ⟨g108, 0, none⟩), .int .i64 3] rfl (by (try simp only [List.map_toArray, List.map_cons, List.map_nil]); first | done | rfl | (simp only [List.length_drop, List.length_take]; rfl)) ?_; (with_reducible refine (spec_l01Src_N.calls g108 t105 t120 t121 3 t122 t123 t124 w _ ?side1 ?side2 A10.out).mono ?_); (case side1 => repeat (first | (with_reducible first | exact HI108.out | apply IsS68.alloc | apply IsS68.drewN | apply IsS68.drew | apply IsS68.set_1 | apply IsS68.set_2 | refine IsS68.far ?_ NB108_118.out _) | exact HI108.out)); (case side2 => repeat (first | (with_reducible first | exact HB.out | apply below_alloc | apply pw_below_drewN | apply below_drew1 | refine below_set ?_ (IsS68.ge HI108.out) | refine below_set ?_ GE118.out) | exact HB.out)); rintro e w19 ⟨rfl, hi, hb, hk⟩; refine ⟨_, rfl, ?_⟩; have n0_ := Aside0.mk (KeepBut.blk hk (g' := gb118) (o := .cells #[.int .i64 0, .int .i64 0, .int .i64 t109, .int .i64 (wrap64 (1 + t112)), .int .i64 (wrap64 (1 + t115)), .int .i64 0, .int .i64 0, .int .i64 0, .int .i64 0, .slice none 0 0] 31 (0, 0)) (by (with_reducible repeat (first | refine blk_drewN ?_ _ | refine blk_drew ?_ | refine blk_alloc ?_ _)); exact BK118.out) NB118_108.out (by simp)); have n1_ := Aside0.mk (hb); have n2_ := Aside0.mk (hi); clear BK118; clear HB; clear HI108; have BK118 := n0_; have HB := n1_; have HI108 := n2_; clear n0_ n1_ n2_; (try clear hb); (try clear hb2); (try clear hk); (try clear hi)) | ((with_reducible refine gate_callee (f := 20) rfl ?_); refine goesL_ (some 40) rfl rfl Try.func20 (by kernel_rfl) rfl #[.pointer (some ⟨g108, 0, none⟩), .int .i64 8] rfl (by (try simp only [List.map_toArray, List.map_cons, List.map_nil]); first | done | rfl | (simp only [List.length_drop, List.length_take]; rfl)) ?_; (with_reducible refine (spec_l01Src_N.calls g108 t105 t123 t124 8 t125 t126 t127 w _ ?side1 ?side2 A11.out).mono ?_); (case side1 => repeat (first | (with_reducible first | exact HI108.out | apply IsS68.alloc | apply IsS68.drewN | apply IsS68.drew | apply IsS68.set_1 | apply IsS68.set_2 | refine IsS68.far ?_ NB108_118.out _) | exact HI108.out)); (case side2 => repeat (first | (with_reducible first | exact HB.out | apply below_alloc | apply pw_below_drewN | apply below_drew1 | refine below_set ?_ (IsS68.ge HI108.out) | refine below_set ?_ GE118.out) | exact HB.out)); rintro e w20 ⟨rfl, hi, hb, hk⟩; refine ⟨_, rfl, ?_⟩; have n0_ := Aside0.mk (KeepBut.blk hk (g' := gb118) (o := .cells #[.int .i64 0, .int .i64 0, .int .i64 t109, .int .i64 (wrap64 (1 + t112)), .int .i64 (wrap64 (1 + t115)), .int .i64 0, .int .i64 0, .int .i64 0, .int .i64 0, .slice none 0 0] 31 (0, 0)) (by (with_reducible repeat (first | refine blk_drewN ?_ _ | refine blk_drew ?_ | refine blk_alloc ?_ _)); exact BK118.out) NB118_108.out (by simp)); have n1_ := Aside0.mk (hb); have n2_ := Aside0.mk (hi); clear BK118; clear HB; clear HI108; have BK118 := n0_; have HB := n1_; have HI108 := n2_; clear n0_ n1_ n2_; (try clear hb); (try clear hb2); (try clear hk); (try clear hi)) | ((with_reducible refine gate_dst (N := 41) rfl ?_); refine Kd.R_lit (Kd.int .i64) _ 3 ?hg (N := 41) ?hd (xs := ([1, 2, 4] : List Int)) (inner := [.int .i64 1, .int .i64 2, .int .i64 4]) (ok := fun _ => True) (okp := fun _ => True) ?hr ?hp (fun _ hk => hk) trivial (Below.refl _ _) (Nat.le_refl _) (by simp) ?_; (case hd => rfl); (case hg => rfl); (case hr => first | (go_simp; done) | (go_simp; rfl)); (case hp => exact (Reps.one (show Kd.M (Kd.int .i64) _ _ _ 1 [.int .i64 1] from rfl) (Reps.one (show Kd.M (Kd.int .i64) _ _ _ 2 [.int .i64 2] from rfl) (Reps.one (show Kd.M (Kd.int .i64) _ _ _ 4 [.int .i64 4] from rfl) (Reps.none _ _))))); intro v129 w21 ho22 hb hg_ hnew_; clear hg_ hnew_; (first | rw [← Ny128.out] at ho22 | (simp only [Int.reduceToNat] at ho22; rw [← Ny128.out] at ho22)); have n0_ := Aside0.mk (Kd.R_lower ho22 (below_size (by repeat (first | (with_reducible first | exact HB.out | apply below_alloc | apply pw_below_drewN | apply below_drew1 | refine below_set ?_ (IsS68.ge HI108.out) | refine below_set ?_ GE118.out) | exact HB.out)))); have n1_ := Aside0.mk (IsS68.below (by repeat (first | (with_reducible first | exact HI108.out | apply IsS68.alloc | apply IsS68.drewN | apply IsS68.drew | apply IsS68.set_1 | apply IsS68.set_2 | refine IsS68.far ?_ NB108_118.out _) | exact HI108.out)) hb); have n2_ := Aside0.mk (blk_below (g := gb118) (o := .cells #[.int .i64 0, .int .i64 0, .int .i64 t109, .int .i64 (wrap64 (1 + t112)), .int .i64 (wrap64 (1 + t115)), .int .i64 0, .int .i64 0, .int .i64 0, .int .i64 0, .slice none 0 0] 31 (0, 0)) (by (with_reducible repeat (first | refine blk_drewN ?_ _ | refine blk_drew ?_ | refine blk_alloc ?_ _)); exact BK118.out) hb); have n3_ := Aside0.mk (below_step (by repeat (first | (with_reducible first | exact HB.out | apply below_alloc | apply pw_below_drewN | apply below_drew1 | refine below_set ?_ (IsS68.ge HI108.out) | refine below_set ?_ GE118.out) | exact HB.out)) hb); clear HI108; clear BK118; clear HB; have HO130 := n0_; have HI108 := n1_; have BK118 := n2_; have HB := n3_; clear n0_ n1_ n2_ n3_; clear hb ho22; obtain ⟨Ao23, co23, eo23⟩ := Kd.R_slice HO130.out; subst eo23))
          go_loopg [9, 43] k1 (fun kq v9 v43 w' => ∃ (x9_2 : Bool) (x43_2 : Int), v9 = .bool x9_2 ∧ v43 = .int .i64 x43_2 ∧ Aside0 (laws_FnAccess.l1 kq x4_1 (wrap64 (1 + t119)) (wrap64 (1 + t122)) t125 x9_2 y128 (y128.length : Int) x43_2 t105 t126 t127 0 0 t109 (wrap64 (1 + t112)) (wrap64 (1 + t115)) 0 0 0 0 = some r) ∧ Aside0 (kq ≤ k1) ∧ Aside0 (Kd.R (Kd.int .i64) 3 w' w.heap.size (fun _ => True) (.slice Ao23 y128.length co23) y128) ∧ Aside0 (w'.heap[gb118]? = some (.cells #[.int .i64 0, .int .i64 0, .int .i64 t109, .int .i64 (wrap64 (1 + t112)), .int .i64 (wrap64 (1 + t115)), .int .i64 0, .int .i64 0, .int .i64 0, .int .i64 0, (.slice none 0 0)] 31 (0, 0))) ∧ Aside0 (IsS68 w w' g108 t105 t126 t127) ∧ Aside0 (Below w.heap.size w w'))
          case atStart => exact ⟨(true), (0), (by first | rfl | (simp; done) | (simp [*]; done)), (by first | rfl | (simp; done) | (simp [*]; done)), H', ⟨Nat.le_refl _⟩, ⟨by (with_reducible repeat (first | apply Kd.R_alloc | apply Kd.R_drewN | apply Kd.R_drew)); exact HO130.out⟩, ⟨by (with_reducible repeat (first | refine blk_drewN ?_ _ | refine blk_drew ?_ | refine blk_alloc ?_ _)); exact BK118.out⟩, ⟨by repeat (first | (with_reducible first | exact HI108.out | apply IsS68.alloc | apply IsS68.drewN | apply IsS68.drew | apply IsS68.set_1 | apply IsS68.set_2 | refine IsS68.far ?_ NB108_118.out _) | exact HI108.out)⟩, ⟨by repeat (first | (with_reducible first | exact HB.out | apply below_alloc | apply pw_below_drewN | apply below_drew1 | refine below_set ?_ (IsS68.ge HI108.out) | refine below_set ?_ GE118.out) | exact HB.out)⟩⟩
          case round =>
            clear H'
            try clear c1
            try clear c2
            try clear c2b0
            try clear c2b1
            try clear p2
            try clear c5
            try clear c5b0
            try clear c6
            try clear p6
            try clear c16
            try clear c19
            try clear c20
            try clear hcz17_0
            try clear hcz17_1
            try clear hcz17_2
            try clear hcz17_3
            try clear hcz17_4
            try clear hcz17_5
            try clear hcz17_6
            try clear hcz17_7
            try clear hcz17_8
            try clear hcz17_9
            try clear hfz17_0
            try clear hfz17_1
            try clear hfz17_2
            try clear hfz17_3
            try clear hfz17_4
            try clear hfz17_5
            try clear hfz17_6
            try clear hfz17_7
            try clear hfz17_8
            try clear hfz17_9
            try clear p2
            obtain ⟨x9_2, x43_2, rfl, rfl, HA, HK2, HO_41, BK118, HI108, HB⟩ := hrel
            cases gk with
            | zero => exact absurd HA.out (by simp [laws_FnAccess.l1])
            | succ k2 =>
              have H := HA.out
              clear HA
              simp only [laws_FnAccess.l1] at H
              by_cases c24 : x43_2 < (y128.length : Int)
              · rw [if_pos c24] at H
                have c24b0 : decide (x43_2 < (y128.length : Int)) = true := decide_eq_true c24
                clear c24
                by_cases c25 : 0 ≤ x43_2
                · rw [if_pos c25] at H
                  have c25b0 : decide (0 ≤ x43_2) = true := decide_eq_true c25
                  clear c25
                  by_cases c26 : x43_2 < (y128.length : Int)
                  · rw [if_pos c26] at H
                    have c26b0 : decide (x43_2 < (y128.length : Int)) = true := decide_eq_true c26
                    clear c26
                    have HC27 := Aside0.mk H
                    clear H
                    have p131 : 0 ≤ (x43_2 : Int) := of_decide_eq_true (by first | (with_reducible assumption) | assumption)
                    have q131 : x43_2 < (y128.length : Int) := of_decide_eq_true (by first | (with_reducible assumption) | assumption)
                    obtain ⟨ad131, e131, hx131_0⟩ := Kd.at_int (Kd.R_reads' HO_41.out).2.2 x43_2 p131 q131
                    cases e131
                    replace p131 := eq_true p131
                    replace q131 := eq_true q131
                    go_upto_region 15 with (fail)
                    go_cut [59] (fun v59 wc => ∃ (kq : Nat) (x59_26 : Bool), v59 = .bool x59_26 ∧ Aside0 (laws_FnAccess.j2 kq x4_1 (wrap64 (1 + t119)) (wrap64 (1 + t122)) t125 x9_2 y128 (y128.length : Int) x43_2 x59_26 t105 t126 t127 0 0 t109 (wrap64 (1 + t112)) (wrap64 (1 + t115)) 0 0 0 0 = some r) ∧ Aside0 (kq ≤ k2) ∧ Aside0 (Kd.R (Kd.int .i64) 3 wc w.heap.size (fun _ => True) (.slice (some ad131) y128.length co23) y128) ∧ Aside0 (wc.heap[gb118]? = some (.cells #[.int .i64 0, .int .i64 0, .int .i64 t109, .int .i64 (wrap64 (1 + t112)), .int .i64 (wrap64 (1 + t115)), .int .i64 0, .int .i64 0, .int .i64 0, .int .i64 0, (.slice none 0 0)] 31 (0, 0))) ∧ Aside0 (IsS68 w wc g108 t105 t126 t127) ∧ Aside0 (Below w.heap.size w wc))
                    case first =>
                      have H := HC27.out
                      clear HC27
                      by_cases c28 : (rd y128 x43_2) = 0
                      · rw [if_pos c28] at H
                        exact absurd H (by simp)
                      · rw [if_neg c28] at H
                        have c28b0 : ((rd y128 x43_2) == 0) = false := beq_eq_false_iff_ne.mpr c28
                        have c28b1 : ((rd y128 x43_2) != 0) = true := bne_iff_ne.mpr c28
                        (first | rw [c28b0] | (simp only [i64_w, i32_w]; rw [c28b0]) | skip)
                        by_cases c29 : (Int.tmod (wrap64 (Int.tdiv t125 (rd y128 x43_2))) 2) = 1
                        · rw [if_pos c29] at H
                          have c29b0 : ((Int.tmod (wrap64 (Int.tdiv t125 (rd y128 x43_2))) 2) == 1) = true := beq_iff_eq.mpr c29
                          have c29b1 : ((Int.tmod (wrap64 (Int.tdiv t125 (rd y128 x43_2))) 2) != 1) = false := bne_eq_false_iff_eq.mpr c29
                          clear c29
                          replace H := Option.bind_eq_some_iff.mp H
                          obtain ⟨t132, A300, H⟩ := H
                          replace H : (laws_FnAccess.j2 k2 x4_1 (wrap64 (1 + t119)) (wrap64 (1 + t122)) t125 x9_2 y128 (y128.length : Int) x43_2 (!t132) t105 t126 t127 0 0 t109 (wrap64 (1 + t112)) (wrap64 (1 + t115)) 0 0 0 0) = some r := H
                          have A30 := Aside0.mk A300
                          clear A300
                          have H' := Aside0.mk H
                          clear H
                          have hnb31 := NB118_108.out
                          have hnc31 := NB108_118.out
                          have hcz32_0 : wr.cell? ⟨gb118, 0, none⟩ = some (.int .i64 0) := (blk_cell BK118.out 0).trans rfl
                          have hcz32_1 : wr.cell? ⟨gb118, 1, none⟩ = some (.int .i64 0) := (blk_cell BK118.out 1).trans rfl
                          have hcz32_2 : wr.cell? ⟨gb118, 2, none⟩ = some (.int .i64 t109) := (blk_cell BK118.out 2).trans rfl
                          have hcz32_3 : wr.cell? ⟨gb118, 3, none⟩ = some (.int .i64 (wrap64 (1 + t112))) := (blk_cell BK118.out 3).trans rfl
                          have hcz32_4 : wr.cell? ⟨gb118, 4, none⟩ = some (.int .i64 (wrap64 (1 + t115))) := (blk_cell BK118.out 4).trans rfl
                          have hcz32_5 : wr.cell? ⟨gb118, 5, none⟩ = some (.int .i64 0) := (blk_cell BK118.out 5).trans rfl
                          have hcz32_6 : wr.cell? ⟨gb118, 6, none⟩ = some (.int .i64 0) := (blk_cell BK118.out 6).trans rfl
                          have hcz32_7 : wr.cell? ⟨gb118, 7, none⟩ = some (.int .i64 0) := (blk_cell BK118.out 7).trans rfl
                          have hcz32_8 : wr.cell? ⟨gb118, 8, none⟩ = some (.int .i64 0) := (blk_cell BK118.out 8).trans rfl
                          have hcz32_9 : wr.cell? ⟨gb118, 9, none⟩ = some (.slice none 0 0) := (blk_cell BK118.out 9).trans rfl
                          have hfz32_0 := blk_frozen BK118.out 0
                          have hfz32_1 := blk_frozen BK118.out 1
                          have hfz32_2 := blk_frozen BK118.out 2
                          have hfz32_3 := blk_frozen BK118.out 3
                          have hfz32_4 := blk_frozen BK118.out 4
                          have hfz32_5 := blk_frozen BK118.out 5
                          have hfz32_6 := blk_frozen BK118.out 6
                          have hfz32_7 := blk_frozen BK118.out 7
                          have hfz32_8 := blk_frozen BK118.out 8
                          have hfz32_9 := blk_frozen BK118.out 9
                          go_wp2_with (first | (go_at_call 21; (refine (impl_MayAccess.calls 0 0 t109 (wrap64 (1 + t112)) (wrap64 (1 + t115)) 0 0 0 0 _ _ ([] : List Int) (wrap64 (1 + t119)) (wrap64 (1 + t122)) (rd y128 x43_2) t132 _ ?side1 ?side2 A30.out).mono ?_); (case side1 => exact Kd.C_nil _ _); (case side2 => exact Nat.le_refl _); rintro e w33 ⟨rfl, hb⟩; have n0_ := Aside0.mk (Kd.R_below (by (with_reducible repeat (first | apply Kd.R_alloc | apply Kd.R_drewN | apply Kd.R_drew)); exact HO_41.out) hb); have n1_ := Aside0.mk (blk_below (g := gb118) (o := .cells #[.int .i64 0, .int .i64 0, .int .i64 t109, .int .i64 (wrap64 (1 + t112)), .int .i64 (wrap64 (1 + t115)), .int .i64 0, .int .i64 0, .int .i64 0, .int .i64 0, .slice none 0 0] 31 (0, 0)) (by (with_reducible repeat (first | refine blk_drewN ?_ _ | refine blk_drew ?_ | refine blk_alloc ?_ _)); exact BK118.out) hb); have n2_ := Aside0.mk (IsS68.below (by repeat (first | (with_reducible first | exact HI108.out | apply IsS68.alloc | apply IsS68.drewN | apply IsS68.drew | apply IsS68.set_1 | apply IsS68.set_2 | refine IsS68.far ?_ NB108_118.out _) | exact HI108.out)) hb); have n3_ := Aside0.mk (below_step (by repeat (first | (with_reducible first | exact HB.out | apply below_alloc | apply pw_below_drewN | apply below_drew1 | refine below_set ?_ (IsS68.ge HI108.out) | refine below_set ?_ GE118.out) | exact HB.out)) hb); clear HO_41; clear BK118; clear HI108; clear HB; have HO_41 := n0_; have BK118 := n1_; have HI108 := n2_; have HB := n3_; clear n0_ n1_ n2_ n3_; (try clear hb); (try clear hb2); (try clear hk); (try clear hi)))
                          go_meet
                          case rel => exact ⟨_, (!t132), (by first | rfl | (simp; done) | (simp [*]; done)), H', ⟨by have := HK1.out; have := HK2.out; first | omega | exact Nat.le_refl _⟩, ⟨by (with_reducible repeat (first | apply Kd.R_alloc | apply Kd.R_drewN | apply Kd.R_drew)); exact HO_41.out⟩, ⟨by (with_reducible repeat (first | refine blk_drewN ?_ _ | refine blk_drew ?_ | refine blk_alloc ?_ _)); exact BK118.out⟩, ⟨by repeat (first | (with_reducible first | exact HI108.out | apply IsS68.alloc | apply IsS68.drewN | apply IsS68.drew | apply IsS68.set_1 | apply IsS68.set_2 | refine IsS68.far ?_ NB108_118.out _) | exact HI108.out)⟩, ⟨by repeat (first | (with_reducible first | exact HB.out | apply below_alloc | apply pw_below_drewN | apply below_drew1 | refine below_set ?_ (IsS68.ge HI108.out) | refine below_set ?_ GE118.out) | exact HB.out)⟩⟩
                        · rw [if_neg c29] at H
                          have c29b0 : ((Int.tmod (wrap64 (Int.tdiv t125 (rd y128 x43_2))) 2) == 1) = false := beq_eq_false_iff_ne.mpr c29
                          have c29b1 : ((Int.tmod (wrap64 (Int.tdiv t125 (rd y128 x43_2))) 2) != 1) = true := bne_iff_ne.mpr c29
                          have H' := Aside0.mk H
                          clear H
                          go_wp2
                          go_meet
                          case rel => exact ⟨_, (false), (by first | rfl | (simp; done) | (simp [*]; done)), H', ⟨by have := HK1.out; have := HK2.out; first | omega | exact Nat.le_refl _⟩, ⟨by (with_reducible repeat (first | apply Kd.R_alloc | apply Kd.R_drewN | apply Kd.R_drew)); exact HO_41.out⟩, ⟨by (with_reducible repeat (first | refine blk_drewN ?_ _ | refine blk_drew ?_ | refine blk_alloc ?_ _)); exact BK118.out⟩, ⟨by repeat (first | (with_reducible first | exact HI108.out | apply IsS68.alloc | apply IsS68.drewN | apply IsS68.drew | apply IsS68.set_1 | apply IsS68.set_2 | refine IsS68.far ?_ NB108_118.out _) | exact HI108.out)⟩, ⟨by repeat (first | (with_reducible first | exact HB.out | apply below_alloc | apply pw_below_drewN | apply below_drew1 | refine below_set ?_ (IsS68.ge HI108.out) | refine below_set ?_ GE118.out) | exact HB.out)⟩⟩
                    case rest =>
                      clear HC27
                      try clear c1
                      try clear p1
                      try clear q1
                      try clear hx1
                      try clear c2
                      try clear c2b0
                      try clear c2b1
                      try clear p2
                      try clear c3
                      try clear c5
                      try clear c5b0
                      try clear c6
                      try clear p6
                      try clear p13
                      try clear q13
                      try clear hx13
                      try clear c16
                      try clear c19
                      try clear c20
                      try clear c24
                      try clear c24b0
                      try clear c25
                      try clear c25b0
                      try clear c26
                      try clear c26b0
                      try clear c28
                      try clear c28b0
                      try clear c28b1
                      try clear c29
                      try clear c29b0
                      try clear c29b1
                      try clear c31
                      try clear hcz17_0
                      try clear hcz17_1
                      try clear hcz17_2
                      try clear hcz17_3
                      try clear hcz17_4
                      try clear hcz17_5
                      try clear hcz17_6
                      try clear hcz17_7
                      try clear hcz17_8
                      try clear hcz17_9
                      try clear hcz32_0
                      try clear hcz32_1
                      try clear hcz32_2
                      try clear hcz32_3
                      try clear hcz32_4
                      try clear hcz32_5
                      try clear hcz32_6
                      try clear hcz32_7
                      try clear hcz32_8
                      try clear hcz32_9
                      try clear hfz17_0
                      try clear hfz17_1
                      try clear hfz17_2
                      try clear hfz17_3
                      try clear hfz17_4
                      try clear hfz17_5
                      try clear hfz17_6
                      try clear hfz17_7
                      try clear hfz17_8
                      try clear hfz17_9
                      try clear hfz32_0
                      try clear hfz32_1
                      try clear hfz32_2
                      try clear hfz32_3
                      try clear hfz32_4
                      try clear hfz32_5
                      try clear hfz32_6
                      try clear hfz32_7
                      try clear hfz32_8
                      try clear hfz32_9
                      try clear hx131_0
                      try clear p131
                      try clear p2
                      try clear p6
                      try clear q131
                      obtain ⟨kq, x59_26, rfl, HA, HJ26, HO_41, BK118, HI108, HB⟩ := hcut
                      cases kq with
                      | zero => exact absurd HA.out (by simp [laws_FnAccess.j2])
                      | succ kj26 =>
                        have H := HA.out
                        clear HA
                        simp only [laws_FnAccess.j2] at H
                        by_cases c34 : x59_26 = true
                        · subst c34
                          have H1 : (laws_FnAccess.l1 kj26 x4_1 (wrap64 (1 + t119)) (wrap64 (1 + t122)) t125 false y128 (y128.length : Int) (wrap64 (x43_2 + 1)) t105 t126 t127 0 0 t109 (wrap64 (1 + t112)) (wrap64 (1 + t115)) 0 0 0 0) = some r := by rw [if_pos rfl] at H; exact H
                          clear H
                          have H := H1
                          clear H1
                          have H' := Aside0.mk H
                          clear H
                          go_wp2
                          go_roundg kj26
                          case measure => have := HK1.out; have := HK2.out; have := HJ26.out; omega
                          case rel => exact ⟨(false), (wrap64 (x43_2 + 1)), (by first | rfl | (simp; done) | (simp [*]; done)), (by first | rfl | (simp; done) | (simp [*]; done)), H', ⟨by have := HK1.out; have := HK2.out; have := HJ26.out; omega⟩, ⟨by (with_reducible repeat (first | apply Kd.R_alloc | apply Kd.R_drewN | apply Kd.R_drew)); exact HO_41.out⟩, ⟨by (with_reducible repeat (first | refine blk_drewN ?_ _ | refine blk_drew ?_ | refine blk_alloc ?_ _)); exact BK118.out⟩, ⟨by repeat (first | (with_reducible first | exact HI108.out | apply IsS68.alloc | apply IsS68.drewN | apply IsS68.drew | apply IsS68.set_1 | apply IsS68.set_2 | refine IsS68.far ?_ NB108_118.out _) | exact HI108.out)⟩, ⟨by repeat (first | (with_reducible first | exact HB.out | apply below_alloc | apply pw_below_drewN | apply below_drew1 | refine below_set ?_ (IsS68.ge HI108.out) | refine below_set ?_ GE118.out) | exact HB.out)⟩⟩
                        · replace c34 := Bool.eq_false_iff.mpr c34
                          subst c34
                          have H1 : (laws_FnAccess.l1 kj26 x4_1 (wrap64 (1 + t119)) (wrap64 (1 + t122)) t125 x9_2 y128 (y128.length : Int) (wrap64 (x43_2 + 1)) t105 t126 t127 0 0 t109 (wrap64 (1 + t112)) (wrap64 (1 + t115)) 0 0 0 0) = some r := by rw [if_neg (show ¬ (false = true) by decide)] at H; exact H
                          clear H
                          have H := H1
                          clear H1
                          have H' := Aside0.mk H
                          clear H
                          go_wp2
                          go_roundg kj26
                          case measure => have := HK1.out; have := HK2.out; have := HJ26.out; omega
                          case rel => exact ⟨(x9_2), (wrap64 (x43_2 + 1)), (by first | rfl | (simp; done) | (simp [*]; done)), (by first | rfl | (simp; done) | (simp [*]; done)), H', ⟨by have := HK1.out; have := HK2.out; have := HJ26.out; omega⟩, ⟨by (with_reducible repeat (first | apply Kd.R_alloc | apply Kd.R_drewN | apply Kd.R_drew)); exact HO_41.out⟩, ⟨by (with_reducible repeat (first | refine blk_drewN ?_ _ | refine blk_drew ?_ | refine blk_alloc ?_ _)); exact BK118.out⟩, ⟨by repeat (first | (with_reducible first | exact HI108.out | apply IsS68.alloc | apply IsS68.drewN | apply IsS68.drew | apply IsS68.set_1 | apply IsS68.set_2 | refine IsS68.far ?_ NB108_118.out _) | exact HI108.out)⟩, ⟨by repeat (first | (with_reducible first | exact HB.out | apply below_alloc | apply pw_below_drewN | apply below_drew1 | refine below_set ?_ (IsS68.ge HI108.out) | refine below_set ?_ GE118.out) | exact HB.out)⟩⟩
                  · rw [if_neg c26] at H
                    exact absurd H (by simp)
                · rw [if_neg c25] at H
                  exact absurd H (by simp)
              · rw [if_neg c24] at H
                have c24b0 : decide (x43_2 < (y128.length : Int)) = false := decide_eq_false c24
                clear c24
                have HC35 := Aside0.mk H
                clear H
                go_upto_region 18 with (fail)
                go_cut [74] (fun v74 wc => ∃ (kq : Nat) (x74_34 : Bool), v74 = .bool x74_34 ∧ Aside0 (laws_FnAccess.j3 kq x4_1 (wrap64 (1 + t119)) (wrap64 (1 + t122)) t125 x9_2 x74_34 t105 t126 t127 0 0 t109 (wrap64 (1 + t112)) (wrap64 (1 + t115)) 0 0 0 0 = some r) ∧ Aside0 (kq ≤ k2) ∧ Aside0 (wc.heap[gb118]? = some (.cells #[.int .i64 0, .int .i64 0, .int .i64 t109, .int .i64 (wrap64 (1 + t112)), .int .i64 (wrap64 (1 + t115)), .int .i64 0, .int .i64 0, .int .i64 0, .int .i64 0, (.slice none 0 0)] 31 (0, 0))) ∧ Aside0 (IsS68 w wc g108 t105 t126 t127) ∧ Aside0 (Below w.heap.size w wc))
                case first =>
                  have H := HC35.out
                  clear HC35
                  replace H := Option.bind_eq_some_iff.mp H
                  obtain ⟨t133, A360, H⟩ := H
                  replace H : (if (t133 != x9_2) = true then (laws_FnAccess.j3 k2 x4_1 (wrap64 (1 + t119)) (wrap64 (1 + t122)) t125 x9_2 true t105 t126 t127 0 0 t109 (wrap64 (1 + t112)) (wrap64 (1 + t115)) 0 0 0 0) else ((impl_MayAccess.f 0 0 t109 (wrap64 (1 + t112)) (wrap64 (1 + t115)) 0 0 0 0 ([] : List Int) 0 (wrap64 (1 + t122)) t125).bind fun t134 => (laws_FnAccess.j3 k2 x4_1 (wrap64 (1 + t119)) (wrap64 (1 + t122)) t125 x9_2 (!t134) t105 t126 t127 0 0 t109 (wrap64 (1 + t112)) (wrap64 (1 + t115)) 0 0 0 0))) = some r := H
                  have A36 := Aside0.mk A360
                  clear A360
                  by_cases c37 : (t133 != x9_2) = true
                  · rw [if_pos c37] at H
                    have c37b0 : (t133 != x9_2) = true := c37
                    (try (have c37b1 : decide (t133 = x9_2) = false := by simpa using c37))
                    (try (have c37b2 : (t133 == x9_2) = false := by simpa using c37))
                    (try (have c37b3 : ¬ (t133 = x9_2) := by simpa using c37))
                    clear c37
                    (first | rw [c37b0] | (simp only [i64_w, i32_w]; rw [c37b0]) | skip)
                    have H' := Aside0.mk H
                    clear H
                    have hnb38 := NB118_108.out
                    have hnc38 := NB108_118.out
                    have hcz39_0 : wr.cell? ⟨gb118, 0, none⟩ = some (.int .i64 0) := (blk_cell BK118.out 0).trans rfl
                    have hcz39_1 : wr.cell? ⟨gb118, 1, none⟩ = some (.int .i64 0) := (blk_cell BK118.out 1).trans rfl
                    have hcz39_2 : wr.cell? ⟨gb118, 2, none⟩ = some (.int .i64 t109) := (blk_cell BK118.out 2).trans rfl
                    have hcz39_3 : wr.cell? ⟨gb118, 3, none⟩ = some (.int .i64 (wrap64 (1 + t112))) := (blk_cell BK118.out 3).trans rfl
                    have hcz39_4 : wr.cell? ⟨gb118, 4, none⟩ = some (.int .i64 (wrap64 (1 + t115))) := (blk_cell BK118.out 4).trans rfl
                    have hcz39_5 : wr.cell? ⟨gb118, 5, none⟩ = some (.int .i64 0) := (blk_cell BK118.out 5).trans rfl
                    have hcz39_6 : wr.cell? ⟨gb118, 6, none⟩ = some (.int .i64 0) := (blk_cell BK118.out 6).trans rfl
                    have hcz39_7 : wr.cell? ⟨gb118, 7, none⟩ = some (.int .i64 0) := (blk_cell BK118.out 7).trans rfl
                    have hcz39_8 : wr.cell? ⟨gb118, 8, none⟩ = some (.int .i64 0) := (blk_cell BK118.out 8).trans rfl
                    have hcz39_9 : wr.cell? ⟨gb118, 9, none⟩ = some (.slice none 0 0) := (blk_cell BK118.out 9).trans rfl
                    have hfz39_0 := blk_frozen BK118.out 0
                    have hfz39_1 := blk_frozen BK118.out 1
                    have hfz39_2 := blk_frozen BK118.out 2
                    have hfz39_3 := blk_frozen BK118.out 3
                    have hfz39_4 := blk_frozen BK118.out 4
                    have hfz39_5 := blk_frozen BK118.out 5
                    have hfz39_6 := blk_frozen BK118.out 6
                    have hfz39_7 := blk_frozen BK118.out 7
                    have hfz39_8 := blk_frozen BK118.out 8
                    have hfz39_9 := blk_frozen BK118.out 9
                    go_wp2_with (first | ((with_reducible refine gate_callee (f := 21) rfl ?_); refine goesL_ (some 65) rfl rfl Try.func21 (by kernel_rfl) rfl #[.agg #[.int .i64 0, .int .i64 0, .int .i64 t109, .int .i64 (wrap64 (1 + t112)), .int .i64 (wrap64 (1 + t115)), .int .i64 0, .int .i64 0, .int .i64 0, .int .i64 0, .slice none 0 0], .int .i64 (wrap64 (1 + t119)), .int .i64 (wrap64 (1 + t122)), .int .i64 t125] rfl (by (try simp only [List.map_toArray, List.map_cons, List.map_nil]); first | done | rfl | (simp only [List.length_drop, List.length_take]; rfl)) ?_; (refine (impl_MayAccess.calls 0 0 t109 (wrap64 (1 + t112)) (wrap64 (1 + t115)) 0 0 0 0 _ _ ([] : List Int) (wrap64 (1 + t119)) (wrap64 (1 + t122)) t125 t133 _ ?side1 ?side2 A36.out).mono ?_); (case side1 => exact Kd.C_nil _ _); (case side2 => exact Nat.le_refl _); rintro e w40 ⟨rfl, hb⟩; refine ⟨_, rfl, ?_⟩; have n0_ := Aside0.mk (Kd.R_below (by (with_reducible repeat (first | apply Kd.R_alloc | apply Kd.R_drewN | apply Kd.R_drew)); exact HO_41.out) hb); have n1_ := Aside0.mk (blk_below (g := gb118) (o := .cells #[.int .i64 0, .int .i64 0, .int .i64 t109, .int .i64 (wrap64 (1 + t112)), .int .i64 (wrap64 (1 + t115)), .int .i64 0, .int .i64 0, .int .i64 0, .int .i64 0, .slice none 0 0] 31 (0, 0)) (by (with_reducible repeat (first | refine blk_drewN ?_ _ | refine blk_drew ?_ | refine blk_alloc ?_ _)); exact BK118.out) hb); have n2_ := Aside0.mk (IsS68.below (by repeat (first | (with_reducible first | exact HI108.out | apply IsS68.alloc | apply IsS68.drewN | apply IsS68.drew | apply IsS68.set_1 | apply IsS68.set_2 | refine IsS68.far ?_ NB108_118.out _) | exact HI108.out)) hb); have n3_ := Aside0.mk (below_step (by repeat (first | (with_reducible first | exact HB.out | apply below_alloc | apply pw_below_drewN | apply below_drew1 | refine below_set ?_ (IsS68.ge HI108.out) | refine below_set ?_ GE118.out) | exact HB.out)) hb); clear HO_41; clear BK118; clear HI108; clear HB; have HO_41 := n0_; have BK118 := n1_; have HI108 := n2_; have HB := n3_; clear n0_ n1_ n2_ n3_; (try clear hb); (try clear hb2); (try clear hk); (try clear hi)))
                    go_meet
                    case rel => exact ⟨_, (true), (by first | rfl | (simp; done) | (simp [*]; done)), H', ⟨by have := HK1.out; have := HK2.out; first | omega | exact Nat.le_refl _⟩, ⟨by (with_reducible repeat (first | refine blk_drewN ?_ _ | refine blk_drew ?_ | refine blk_alloc ?_ _)); exact BK118.out⟩, ⟨by repeat (first | (with_reducible first | exact HI108.out | apply IsS68.alloc | apply IsS68.drewN | apply IsS68.drew | apply IsS68.set_1 | apply IsS68.set_2 | refine IsS68.far ?_ NB108_118.out _) | exact HI108.out)⟩, ⟨by repeat (first | (with_reducible first | exact HB.out | apply below_alloc | apply pw_below_drewN | apply below_drew1 | refine below_set ?_ (IsS68.ge HI108.out) | refine below_set ?_ GE118.out) | exact HB.out)⟩⟩
                  · rw [if_neg c37] at H
                    have c37b0 : (t133 != x9_2) = false := by simpa using c37
                    (try (have c37b1 : decide (t133 = x9_2) = true := by simpa using c37))
                    (try (have c37b2 : (t133 == x9_2) = true := by simpa using c37))
                    clear c37
                    (first | rw [c37b0] | (simp only [i64_w, i32_w]; rw [c37b0]) | skip)
                    replace H := Option.bind_eq_some_iff.mp H
                    obtain ⟨t134, A410, H⟩ := H
                    replace H : (laws_FnAccess.j3 k2 x4_1 (wrap64 (1 + t119)) (wrap64 (1 + t122)) t125 x9_2 (!t134) t105 t126 t127 0 0 t109 (wrap64 (1 + t112)) (wrap64 (1 + t115)) 0 0 0 0) = some r := H
                    have A41 := Aside0.mk A410
                    clear A410
                    have H' := Aside0.mk H
                    clear H
                    have hnb42 := NB118_108.out
                    have hnc42 := NB108_118.out
                    have hcz43_0 : wr.cell? ⟨gb118, 0, none⟩ = some (.int .i64 0) := (blk_cell BK118.out 0).trans rfl
                    have hcz43_1 : wr.cell? ⟨gb118, 1, none⟩ = some (.int .i64 0) := (blk_cell BK118.out 1).trans rfl
                    have hcz43_2 : wr.cell? ⟨gb118, 2, none⟩ = some (.int .i64 t109) := (blk_cell BK118.out 2).trans rfl
                    have hcz43_3 : wr.cell? ⟨gb118, 3, none⟩ = some (.int .i64 (wrap64 (1 + t112))) := (blk_cell BK118.out 3).trans rfl
                    have hcz43_4 : wr.cell? ⟨gb118, 4, none⟩ = some (.int .i64 (wrap64 (1 + t115))) := (blk_cell BK118.out 4).trans rfl
                    have hcz43_5 : wr.cell? ⟨gb118, 5, none⟩ = some (.int .i64 0) := (blk_cell BK118.out 5).trans rfl
                    have hcz43_6 : wr.cell? ⟨gb118, 6, none⟩ = some (.int .i64 0) := (blk_cell BK118.out 6).trans rfl
                    have hcz43_7 : wr.cell? ⟨gb118, 7, none⟩ = some (.int .i64 0) := (blk_cell BK118.out 7).trans rfl
                    have hcz43_8 : wr.cell? ⟨gb118, 8, none⟩ = some (.int .i64 0) := (blk_cell BK118.out 8).trans rfl
                    have hcz43_9 : wr.cell? ⟨gb118, 9, none⟩ = some (.slice none 0 0) := (blk_cell BK118.out 9).trans rfl
                    have hfz43_0 := blk_frozen BK118.out 0
                    have hfz43_1 := blk_frozen BK118.out 1
                    have hfz43_2 := blk_frozen BK118.out 2
                    have hfz43_3 := blk_frozen BK118.out 3
                    have hfz43_4 := blk_frozen BK118.out 4
                    have hfz43_5 := blk_frozen BK118.out 5
                    have hfz43_6 := blk_frozen BK118.out 6
                    have hfz43_7 := blk_frozen BK118.out 7
                    have hfz43_8 := blk_frozen BK118.out 8
                    have hfz43_9 := blk_frozen BK118.out 9
                    go_wp2_with (first | ((with_reducible refine gate_callee (f := 21) rfl ?_); refine goesL_ (some 65) rfl rfl Try.func21 (by kernel_rfl) rfl #[.agg #[.int .i64 0, .int .i64 0, .int .i64 t109, .int .i64 (wrap64 (1 + t112)), .int .i64 (wrap64 (1 + t115)), .int .i64 0, .int .i64 0, .int .i64 0, .int .i64 0, .slice none 0 0], .int .i64 (wrap64 (1 + t119)), .int .i64 (wrap64 (1 + t122)), .int .i64 t125] rfl (by (try simp only [List.map_toArray, List.map_cons, List.map_nil]); first | done | rfl | (simp only [List.length_drop, List.length_take]; rfl)) ?_; (refine (impl_MayAccess.calls 0 0 t109 (wrap64 (1 + t112)) (wrap64 (1 + t115)) 0 0 0 0 _ _ ([] : List Int) (wrap64 (1 + t119)) (wrap64 (1 + t122)) t125 t133 _ ?side1 ?side2 A36.out).mono ?_); (case side1 => exact Kd.C_nil _ _); (case side2 => exact Nat.le_refl _); rintro e w44 ⟨rfl, hb⟩; refine ⟨_, rfl, ?_⟩; have n0_ := Aside0.mk (Kd.R_below (by (with_reducible repeat (first | apply Kd.R_alloc | apply Kd.R_drewN | apply Kd.R_drew)); exact HO_41.out) hb); have n1_ := Aside0.mk (blk_below (g := gb118) (o := .cells #[.int .i64 0, .int .i64 0, .int .i64 t109, .int .i64 (wrap64 (1 + t112)), .int .i64 (wrap64 (1 + t115)), .int .i64 0, .int .i64 0, .int .i64 0, .int .i64 0, .slice none 0 0] 31 (0, 0)) (by (with_reducible repeat (first | refine blk_drewN ?_ _ | refine blk_drew ?_ | refine blk_alloc ?_ _)); exact BK118.out) hb); have n2_ := Aside0.mk (IsS68.below (by repeat (first | (with_reducible first | exact HI108.out | apply IsS68.alloc | apply IsS68.drewN | apply IsS68.drew | apply IsS68.set_1 | apply IsS68.set_2 | refine IsS68.far ?_ NB108_118.out _) | exact HI108.out)) hb); have n3_ := Aside0.mk (below_step (by repeat (first | (with_reducible first | exact HB.out | apply below_alloc | apply pw_below_drewN | apply below_drew1 | refine below_set ?_ (IsS68.ge HI108.out) | refine below_set ?_ GE118.out) | exact HB.out)) hb); clear HO_41; clear BK118; clear HI108; clear HB; have HO_41 := n0_; have BK118 := n1_; have HI108 := n2_; have HB := n3_; clear n0_ n1_ n2_ n3_; (try clear hb); (try clear hb2); (try clear hk); (try clear hi); have hcz45_0 : w44.cell? ⟨gb118, 0, none⟩ = some (.int .i64 0) := (blk_cell BK118.out 0).trans rfl; have hcz45_1 : w44.cell? ⟨gb118, 1, none⟩ = some (.int .i64 0) := (blk_cell BK118.out 1).trans rfl; have hcz45_2 : w44.cell? ⟨gb118, 2, none⟩ = some (.int .i64 t109) := (blk_cell BK118.out 2).trans rfl; have hcz45_3 : w44.cell? ⟨gb118, 3, none⟩ = some (.int .i64 (wrap64 (1 + t112))) := (blk_cell BK118.out 3).trans rfl; have hcz45_4 : w44.cell? ⟨gb118, 4, none⟩ = some (.int .i64 (wrap64 (1 + t115))) := (blk_cell BK118.out 4).trans rfl; have hcz45_5 : w44.cell? ⟨gb118, 5, none⟩ = some (.int .i64 0) := (blk_cell BK118.out 5).trans rfl; have hcz45_6 : w44.cell? ⟨gb118, 6, none⟩ = some (.int .i64 0) := (blk_cell BK118.out 6).trans rfl; have hcz45_7 : w44.cell? ⟨gb118, 7, none⟩ = some (.int .i64 0) := (blk_cell BK118.out 7).trans rfl; have hcz45_8 : w44.cell? ⟨gb118, 8, none⟩ = some (.int .i64 0) := (blk_cell BK118.out 8).trans rfl; have hcz45_9 : w44.cell? ⟨gb118, 9, none⟩ = some (.slice none 0 0) := (blk_cell BK118.out 9).trans rfl; have hfz45_0 := blk_frozen BK118.out 0; have hfz45_1 := blk_frozen BK118.out 1; have hfz45_2 := blk_frozen BK118.out 2; have hfz45_3 := blk_frozen BK118.out 3; have hfz45_4 := blk_frozen BK118.out 4; have hfz45_5 := blk_frozen BK118.out 5; have hfz45_6 := blk_frozen BK118.out 6; have hfz45_7 := blk_frozen BK118.out 7; have hfz45_8 := blk_frozen BK118.out 8; have hfz45_9 := blk_frozen BK118.out 9) | (go_at_call 21; (refine (impl_MayAccess.calls 0 0 t109 (wrap64 (1 + t112)) (wrap64 (1 + t115)) 0 0 0 0 _ _ ([] : List Int) 0 (wrap64 (1 + t122)) t125 t134 _ ?side1 ?side2 A41.out).mono ?_); (case side1 => exact Kd.C_nil _ _); (case side2 => exact Nat.le_refl _); rintro e w46 ⟨rfl, hb⟩; have n0_ := Aside0.mk (Kd.R_below (by (with_reducible repeat (first | apply Kd.R_alloc | apply Kd.R_drewN | apply Kd.R_drew)); exact HO_41.out) hb); have n1_ := Aside0.mk (blk_below (g := gb118) (o := .cells #[.int .i64 0, .int .i64 0, .int .i64 t109, .int .i64 (wrap64 (1 + t112)), .int .i64 (wrap64 (1 + t115)), .int .i64 0, .int .i64 0, .int .i64 0, .int .i64 0, .slice none 0 0] 31 (0, 0)) (by (with_reducible repeat (first | refine blk_drewN ?_ _ | refine blk_drew ?_ | refine blk_alloc ?_ _)); exact BK118.out) hb); have n2_ := Aside0.mk (IsS68.below (by repeat (first | (with_reducible first | exact HI108.out | apply IsS68.alloc | apply IsS68.drewN | apply IsS68.drew | apply IsS68.set_1 | apply IsS68.set_2 | refine IsS68.far ?_ NB108_118.out _) | exact HI108.out)) hb); have n3_ := Aside0.mk (below_step (by repeat (first | (with_reducible first | exact HB.out | apply below_alloc | apply pw_below_drewN | apply below_drew1 | refine below_set ?_ (IsS68.ge HI108.out) | refine below_set ?_ GE118.out) | exact HB.out)) hb); clear HO_41; clear BK118; clear HI108; clear HB; have HO_41 := n0_; have BK118 := n1_; have HI108 := n2_; have HB := n3_; clear n0_ n1_ n2_ n3_; (try clear hb); (try clear hb2); (try clear hk); (try clear hi)))
                    go_meet
                    case rel => exact ⟨_, (!t134), (by first | rfl | (simp; done) | (simp [*]; done)), H', ⟨by have := HK1.out; have := HK2.out; first | omega | exact Nat.le_refl _⟩, ⟨by (with_reducible repeat (first | refine blk_drewN ?_ _ | refine blk_drew ?_ | refine blk_alloc ?_ _)); exact BK118.out⟩, ⟨by repeat (first | (with_reducible first | exact HI108.out | apply IsS68.alloc | apply IsS68.drewN | apply IsS68.drew | apply IsS68.set_1 | apply IsS68.set_2 | refine IsS68.far ?_ NB108_118.out _) | exact HI108.out)⟩, ⟨by repeat (first | (with_reducible first | exact HB.out | apply below_alloc | apply pw_below_drewN | apply below_drew1 | refine below_set ?_ (IsS68.ge HI108.out) | refine below_set ?_ GE118.out) | exact HB.out)⟩⟩
                case rest =>
                  clear HC35
                  try clear c1
                  try clear p1
                  try clear q1
                  try clear hx1
                  try clear c2
                  try clear c2b0
                  try clear c2b1
                  try clear p2
                  try clear c3
                  try clear c4
                  try clear c5
                  try clear c5b0
                  try clear c6
                  try clear p6
                  try clear p13
                  try clear q13
                  try clear hx13
                  try clear c16
                  try clear c19
                  try clear c20
                  try clear c21
                  try clear c24
                  try clear c24b0
                  try clear c25
                  try clear c25b0
                  try clear c26
                  try clear c26b0
                  try clear c28
                  try clear c28b0
                  try clear c28b1
                  try clear c29
                  try clear c29b0
                  try clear c29b1
                  try clear c31
                  try clear c34
                  try clear c37
                  try clear c37b0
                  try clear c37b1
                  try clear c37b2
                  try clear c38
                  try clear c42
                  try clear hcz17_0
                  try clear hcz17_1
                  try clear hcz17_2
                  try clear hcz17_3
                  try clear hcz17_4
                  try clear hcz17_5
                  try clear hcz17_6
                  try clear hcz17_7
                  try clear hcz17_8
                  try clear hcz17_9
                  try clear hcz32_0
                  try clear hcz32_1
                  try clear hcz32_2
                  try clear hcz32_3
                  try clear hcz32_4
                  try clear hcz32_5
                  try clear hcz32_6
                  try clear hcz32_7
                  try clear hcz32_8
                  try clear hcz32_9
                  try clear hcz39_0
                  try clear hcz39_1
                  try clear hcz39_2
                  try clear hcz39_3
                  try clear hcz39_4
                  try clear hcz39_5
                  try clear hcz39_6
                  try clear hcz39_7
                  try clear hcz39_8
                  try clear hcz39_9
                  try clear hcz43_0
                  try clear hcz43_1
                  try clear hcz43_2
                  try clear hcz43_3
                  try clear hcz43_4
                  try clear hcz43_5
                  try clear hcz43_6
                  try clear hcz43_7
                  try clear hcz43_8
                  try clear hcz43_9
                  try clear hcz45_0
                  try clear hcz45_1
                  try clear hcz45_2
                  try clear hcz45_3
                  try clear hcz45_4
                  try clear hcz45_5
                  try clear hcz45_6
                  try clear hcz45_7
                  try clear hcz45_8
                  try clear hcz45_9
                  try clear hfz17_0
                  try clear hfz17_1
                  try clear hfz17_2
                  try clear hfz17_3
                  try clear hfz17_4
                  try clear hfz17_5
                  try clear hfz17_6
                  try clear hfz17_7
                  try clear hfz17_8
                  try clear hfz17_9
                  try clear hfz32_0
                  try clear hfz32_1
                  try clear hfz32_2
                  try clear hfz32_3
                  try clear hfz32_4
                  try clear hfz32_5
                  try clear hfz32_6
                  try clear hfz32_7
                  try clear hfz32_8
                  try clear hfz32_9
                  try clear hfz39_0
                  try clear hfz39_1
                  try clear hfz39_2
                  try clear hfz39_3
                  try clear hfz39_4
                  try clear hfz39_5
                  try clear hfz39_6
                  try clear hfz39_7
                  try clear hfz39_8
                  try clear hfz39_9
                  try clear hfz43_0
                  try clear hfz43_1
                  try clear hfz43_2
                  try clear hfz43_3
                  try clear hfz43_4
                  try clear hfz43_5
                  try clear hfz43_6
                  try clear hfz43_7
                  try clear hfz43_8
                  try clear hfz43_9
                  try clear hfz45_0
                  try clear hfz45_1
                  try clear hfz45_2
                  try clear hfz45_3
                  try clear hfz45_4
                  try clear hfz45_5
                  try clear hfz45_6
                  try clear hfz45_7
                  try clear hfz45_8
                  try clear hfz45_9
                  try clear hx131_0
                  try clear p1
                  try clear p13
                  try clear p131
                  try clear p2
                  try clear p6
                  try clear q1
                  try clear q13
                  try clear q131
                  obtain ⟨kq, x74_34, rfl, HA, HJ34, BK118, HI108, HB⟩ := hcut
                  cases kq with
                  | zero => exact absurd HA.out (by simp [laws_FnAccess.j3])
                  | succ kj34 =>
                    have H := HA.out
                    clear HA
                    simp only [laws_FnAccess.j3] at H
                    by_cases c47 : x74_34 = true
                    · subst c47
                      have H1 : (some false) = some r := by rw [if_pos rfl] at H; exact H
                      clear H
                      have H := H1
                      clear H1
                      obtain rfl := Option.some.inj H
                      go_wp2
                      go_ret
                      exact ⟨by first | rfl | (simp [errW_none, errW_some] <;> rfl) | (simp [*, errW_none, errW_some] <;> rfl), by repeat (first | (with_reducible first | exact HB.out | apply below_alloc | apply pw_below_drewN | apply below_drew1 | refine below_set ?_ (IsS68.ge HI108.out) | refine below_set ?_ GE118.out) | exact HB.out)⟩
                    · replace c47 := Bool.eq_false_iff.mpr c47
                      subst c47
                      have H1 : ((spec_l01Src_N.f t105 t126 t127 512).bind fun bt136 => (if x9_2 = true then ((impl_MayAccess.f 0 0 (Go.bits .or .i64 t109 bt136.1) (wrap64 (1 + t112)) (wrap64 (1 + t115)) 0 0 0 0 ([] : List Int) (wrap64 (1 + t119)) (wrap64 (1 + t122)) t125).bind fun t139 => (laws_FnAccess.j4 kj34 x4_1 (wrap64 (1 + t119)) (wrap64 (1 + t122)) t125 x9_2 (!t139) t105 bt136.2.1 bt136.2.2 0 0 t109 (wrap64 (1 + t112)) (wrap64 (1 + t115)) 0 0 0 0)) else (laws_FnAccess.j4 kj34 x4_1 (wrap64 (1 + t119)) (wrap64 (1 + t122)) t125 x9_2 false t105 bt136.2.1 bt136.2.2 0 0 t109 (wrap64 (1 + t112)) (wrap64 (1 + t115)) 0 0 0 0))) = some r := by rw [if_neg (show ¬ (false = true) by decide)] at H; exact H
                      clear H
                      have H := H1
                      clear H1
                      replace H := Option.bind_eq_some_iff.mp H
                      obtain ⟨⟨t136, t137, t138⟩, A480, H⟩ := H
                      replace H : (if x9_2 = true then ((impl_MayAccess.f 0 0 (Go.bits .or .i64 t109 t136) (wrap64 (1 + t112)) (wrap64 (1 + t115)) 0 0 0 0 ([] : List Int) (wrap64 (1 + t119)) (wrap64 (1 + t122)) t125).bind fun t139 => (laws_FnAccess.j4 kj34 x4_1 (wrap64 (1 + t119)) (wrap64 (1 + t122)) t125 x9_2 (!t139) t105 t137 t138 0 0 t109 (wrap64 (1 + t112)) (wrap64 (1 + t115)) 0 0 0 0)) else (laws_FnAccess.j4 kj34 x4_1 (wrap64 (1 + t119)) (wrap64 (1 + t122)) t125 x9_2 false t105 t137 t138 0 0 t109 (wrap64 (1 + t112)) (wrap64 (1 + t115)) 0 0 0 0)) = some r := H
                      have A48 := Aside0.mk A480
                      clear A480
                      have HC49 := Aside0.mk H
                      clear H
                      have hnb50 := NB118_108.out
                      have hnc50 := NB108_118.out
                      have hcz51_0 : wc.cell? ⟨gb118, 0, none⟩ = some (.int .i64 0) := (blk_cell BK118.out 0).trans rfl
                      have hcz51_1 : wc.cell? ⟨gb118, 1, none⟩ = some (.int .i64 0) := (blk_cell BK118.out 1).trans rfl
                      have hcz51_2 : wc.cell? ⟨gb118, 2, none⟩ = some (.int .i64 t109) := (blk_cell BK118.out 2).trans rfl
                      have hcz51_3 : wc.cell? ⟨gb118, 3, none⟩ = some (.int .i64 (wrap64 (1 + t112))) := (blk_cell BK118.out 3).trans rfl
                      have hcz51_4 : wc.cell? ⟨gb118, 4, none⟩ = some (.int .i64 (wrap64 (1 + t115))) := (blk_cell BK118.out 4).trans rfl
                      have hcz51_5 : wc.cell? ⟨gb118, 5, none⟩ = some (.int .i64 0) := (blk_cell BK118.out 5).trans rfl
                      have hcz51_6 : wc.cell? ⟨gb118, 6, none⟩ = some (.int .i64 0) := (blk_cell BK118.out 6).trans rfl
                      have hcz51_7 : wc.cell? ⟨gb118, 7, none⟩ = some (.int .i64 0) := (blk_cell BK118.out 7).trans rfl
                      have hcz51_8 : wc.cell? ⟨gb118, 8, none⟩ = some (.int .i64 0) := (blk_cell BK118.out 8).trans rfl
                      have hcz51_9 : wc.cell? ⟨gb118, 9, none⟩ = some (.slice none 0 0) := (blk_cell BK118.out 9).trans rfl
                      have hfz51_0 := blk_frozen BK118.out 0
                      have hfz51_1 := blk_frozen BK118.out 1
                      have hfz51_2 := blk_frozen BK118.out 2
                      have hfz51_3 := blk_frozen BK118.out 3
                      have hfz51_4 := blk_frozen BK118.out 4
                      have hfz51_5 := blk_frozen BK118.out 5
                      have hfz51_6 := blk_frozen BK118.out 6
                      have hfz51_7 := blk_frozen BK118.out 7
                      have hfz51_8 := blk_frozen BK118.out 8
                      have hfz51_9 := blk_frozen BK118.out 9
                      try go_wp2_with (first | ((with_reducible refine gate_dst (N := 12) rfl ?_); refine box_event ?hg (N := 12) ?hd (cs := #[.int .i64 0, .int .i64 0, .int .i64 0, .int .i64 0, .int .i64 0, .int .i64 0, .int .i64 0, .int .i64 0, .int .i64 0, .slice none 0 0]) (t := 31) ?hr ?_; (case hd => rfl); (case hg => rfl); (case hr => first | (go_simp; done) | (go_simp; rfl)); intro gb135 hg w52 hbox hb; have n0_ := Aside0.mk (blk_below (g := gb118) (o := .cells #[.int .i64 0, .int .i64 0, .int .i64 t109, .int .i64 (wrap64 (1 + t112)), .int .i64 (wrap64 (1 + t115)), .int .i64 0, .int .i64 0, .int .i64 0, .int .i64 0, .slice none 0 0] 31 (0, 0)) (by (with_reducible repeat (first | refine blk_drewN ?_ _ | refine blk_drew ?_ | refine blk_alloc ?_ _)); exact BK118.out) hb); have n1_ := Aside0.mk (IsS68.below (by repeat (first | (with_reducible first | exact HI108.out | apply IsS68.alloc | apply IsS68.drewN | apply IsS68.drew | apply IsS68.set_1 | apply IsS68.set_2 | refine IsS68.far ?_ NB108_118.out _) | exact HI108.out)) hb); have n2_ := Aside0.mk (below_step (by repeat (first | (with_reducible first | exact HB.out | apply below_alloc | apply pw_below_drewN | apply below_drew1 | refine below_set ?_ (IsS68.ge HI108.out) | refine below_set ?_ GE118.out) | exact HB.out)) hb); have n3_ := Aside0.mk (hbox); have n4_ := Aside0.mk ((by rw [hg]; exact (below_size (by repeat (first | (with_reducible first | exact HB.out | apply below_alloc | apply pw_below_drewN | apply below_drew1 | refine below_set ?_ (IsS68.ge HI108.out) | refine below_set ?_ GE118.out) | exact HB.out))) : w.heap.size ≤ gb135)); have n5_ := Aside0.mk ((by rw [hg]; exact (below_size (by repeat (first | (with_reducible first | exact HB.out | apply below_alloc | apply pw_below_drewN | apply below_drew1 | refine below_set ?_ (IsS68.ge HI108.out) | refine below_set ?_ GE118.out) | exact HB.out))) : w.heap.size ≤ gb135)); have n6_ := Aside0.mk ((by rw [hg]; exact Nat.ne_of_lt (blk_lt (g := gb118) (o := .cells #[.int .i64 0, .int .i64 0, .int .i64 t109, .int .i64 (wrap64 (1 + t112)), .int .i64 (wrap64 (1 + t115)), .int .i64 0, .int .i64 0, .int .i64 0, .int .i64 0, .slice none 0 0] 31 (0, 0)) (by (with_reducible repeat (first | refine blk_drewN ?_ _ | refine blk_drew ?_ | refine blk_alloc ?_ _)); exact BK118.out)) : gb118 ≠ gb135)); have n7_ := Aside0.mk ((by rw [hg]; exact Nat.ne_of_gt (blk_lt (g := gb118) (o := .cells #[.int .i64 0, .int .i64 0, .int .i64 t109, .int .i64 (wrap64 (1 + t112)), .int .i64 (wrap64 (1 + t115)), .int .i64 0, .int .i64 0, .int .i64 0, .int .i64 0, .slice none 0 0] 31 (0, 0)) (by (with_reducible repeat (first | refine blk_drewN ?_ _ | refine blk_drew ?_ | refine blk_alloc ?_ _)); exact BK118.out)) : gb135 ≠ gb118)); have n8_ := Aside0.mk ((by rw [hg]; exact Nat.ne_of_lt (IsS68.lt (show IsS68 w _ g108 t105 t126 t127 from by repeat (first | (with_reducible first | exact HI108.out | apply IsS68.alloc | apply IsS68.drewN | apply IsS68.drew | apply IsS68.set_1 | apply IsS68.set_2 | refine IsS68.far ?_ NB108_118.out _) | exact HI108.out))) : g108 ≠ gb135)); have n9_ := Aside0.mk ((by rw [hg]; exact Nat.ne_of_gt (IsS68.lt (show IsS68 w _ g108 t105 t126 t127 from by repeat (first | (with_reducible first | exact HI108.out | apply IsS68.alloc | apply IsS68.drewN | apply IsS68.drew | apply IsS68.set_1 | apply IsS68.set_2 | refine IsS68.far ?_ NB108_118.out _) | exact HI108.out))) : gb135 ≠ g108)); clear BK118; clear HI108; clear HB; have BK118 := n0_; have HI108 := n1_; have HB := n2_; have BK135 := n3_; have GW135 := n4_; have GE135 := n5_; have NB118_135 := n6_; have NB135_118 := n7_; have NB108_135 := n8_; have NB135_108 := n9_; clear n0_ n1_ n2_ n3_ n4_ n5_ n6_ n7_ n8_ n9_; clear hb hbox hg; have hnb53 := NB135_118.out; have hnc53 := NB118_135.out; have hnb54 := NB135_108.out; have hnc54 := NB108_135.out; have hcz55_0 : w52.cell? ⟨gb135, 0, none⟩ = some (.int .i64 0) := (blk_cell BK135.out 0).trans rfl; have hcz55_1 : w52.cell? ⟨gb135, 1, none⟩ = some (.int .i64 0) := (blk_cell BK135.out 1).trans rfl; have hcz55_2 : w52.cell? ⟨gb135, 2, none⟩ = some (.int .i64 0) := (blk_cell BK135.out 2).trans rfl; have hcz55_3 : w52.cell? ⟨gb135, 3, none⟩ = some (.int .i64 0) := (blk_cell BK135.out 3).trans rfl; have hcz55_4 : w52.cell? ⟨gb135, 4, none⟩ = some (.int .i64 0) := (blk_cell BK135.out 4).trans rfl; have hcz55_5 : w52.cell? ⟨gb135, 5, none⟩ = some (.int .i64 0) := (blk_cell BK135.out 5).trans rfl; have hcz55_6 : w52.cell? ⟨gb135, 6, none⟩ = some (.int .i64 0) := (blk_cell BK135.out 6).trans rfl; have hcz55_7 : w52.cell? ⟨gb135, 7, none⟩ = some (.int .i64 0) := (blk_cell BK135.out 7).trans rfl; have hcz55_8 : w52.cell? ⟨gb135, 8, none⟩ = some (.int .i64 0) := (blk_cell BK135.out 8).trans rfl; have hcz55_9 : w52.cell? ⟨gb135, 9, none⟩ = some (.slice none 0 0) := (blk_cell BK135.out 9).trans rfl; have hfz55_0 := blk_frozen BK135.out 0; have hfz55_1 := blk_frozen BK135.out 1; have hfz55_2 := blk_frozen BK135.out 2; have hfz55_3 := blk_frozen BK135.out 3; have hfz55_4 := blk_frozen BK135.out 4; have hfz55_5 := blk_frozen BK135.out 5; have hfz55_6 := blk_frozen BK135.out 6; have hfz55_7 := blk_frozen BK135.out 7; have hfz55_8 := blk_frozen BK135.out 8; have hfz55_9 := blk_frozen BK135.out 9))
                      have n0_ : Aside0 (((((((((((w52.setCell ⟨gb135, 0, none⟩ (.int .i64 0)).setCell ⟨gb135, 1, none⟩ (.int .i64 0)).setCell ⟨gb135, 2, none⟩ (.int .i64 t109)).setCell ⟨gb135, 3, none⟩ (.int .i64 (wrap64 (1 + t112)))).setCell ⟨gb135, 4, none⟩ (.int .i64 (wrap64 (1 + t115)))).setCell ⟨gb135, 5, none⟩ (.int .i64 0)).setCell ⟨gb135, 6, none⟩ (.int .i64 0)).setCell ⟨gb135, 7, none⟩ (.int .i64 0)).setCell ⟨gb135, 8, none⟩ (.int .i64 0)).setCell ⟨gb135, 9, none⟩ (.slice none 0 0)).heap[gb118]? = some (.cells #[.int .i64 0, .int .i64 0, .int .i64 t109, .int .i64 (wrap64 (1 + t112)), .int .i64 (wrap64 (1 + t115)), .int .i64 0, .int .i64 0, .int .i64 0, .int .i64 0, .slice none 0 0] 31 (0, 0))) := ⟨by (with_reducible repeat (first | refine blk_drewN ?_ _ | refine blk_drew ?_ | refine blk_alloc ?_ _)); refine blk_far ?_ NB118_135.out _; (with_reducible repeat (first | refine blk_drewN ?_ _ | refine blk_drew ?_ | refine blk_alloc ?_ _)); refine blk_far ?_ NB118_135.out _; (with_reducible repeat (first | refine blk_drewN ?_ _ | refine blk_drew ?_ | refine blk_alloc ?_ _)); refine blk_far ?_ NB118_135.out _; (with_reducible repeat (first | refine blk_drewN ?_ _ | refine blk_drew ?_ | refine blk_alloc ?_ _)); refine blk_far ?_ NB118_135.out _; (with_reducible repeat (first | refine blk_drewN ?_ _ | refine blk_drew ?_ | refine blk_alloc ?_ _)); refine blk_far ?_ NB118_135.out _; (with_reducible repeat (first | refine blk_drewN ?_ _ | refine blk_drew ?_ | refine blk_alloc ?_ _)); refine blk_far ?_ NB118_135.out _; (with_reducible repeat (first | refine blk_drewN ?_ _ | refine blk_drew ?_ | refine blk_alloc ?_ _)); refine blk_far ?_ NB118_135.out _; (with_reducible repeat (first | refine blk_drewN ?_ _ | refine blk_drew ?_ | refine blk_alloc ?_ _)); refine blk_far ?_ NB118_135.out _; (with_reducible repeat (first | refine blk_drewN ?_ _ | refine blk_drew ?_ | refine blk_alloc ?_ _)); refine blk_far ?_ NB118_135.out _; (with_reducible repeat (first | refine blk_drewN ?_ _ | refine blk_drew ?_ | refine blk_alloc ?_ _)); refine blk_far ?_ NB118_135.out _; (with_reducible repeat (first | refine blk_drewN ?_ _ | refine blk_drew ?_ | refine blk_alloc ?_ _)); exact BK118.out⟩
                      have n1_ : Aside0 (((((((((((w52.setCell ⟨gb135, 0, none⟩ (.int .i64 0)).setCell ⟨gb135, 1, none⟩ (.int .i64 0)).setCell ⟨gb135, 2, none⟩ (.int .i64 t109)).setCell ⟨gb135, 3, none⟩ (.int .i64 (wrap64 (1 + t112)))).setCell ⟨gb135, 4, none⟩ (.int .i64 (wrap64 (1 + t115)))).setCell ⟨gb135, 5, none⟩ (.int .i64 0)).setCell ⟨gb135, 6, none⟩ (.int .i64 0)).setCell ⟨gb135, 7, none⟩ (.int .i64 0)).setCell ⟨gb135, 8, none⟩ (.int .i64 0)).setCell ⟨gb135, 9, none⟩ (.slice none 0 0)).heap[gb135]? = some (.cells #[.int .i64 0, .int .i64 0, .int .i64 t109, .int .i64 (wrap64 (1 + t112)), .int .i64 (wrap64 (1 + t115)), .int .i64 0, .int .i64 0, .int .i64 0, .int .i64 0, .slice none 0 0] 31 (0, 0))) := ⟨by (with_reducible repeat (first | refine blk_drewN ?_ _ | refine blk_drew ?_ | refine blk_alloc ?_ _)); refine blk_put (cs := #[.int .i64 0, .int .i64 0, .int .i64 t109, .int .i64 (wrap64 (1 + t112)), .int .i64 (wrap64 (1 + t115)), .int .i64 0, .int .i64 0, .int .i64 0, .int .i64 0, .slice none 0 0]) ?_ 9 _ rfl; (with_reducible repeat (first | refine blk_drewN ?_ _ | refine blk_drew ?_ | refine blk_alloc ?_ _)); refine blk_put (cs := #[.int .i64 0, .int .i64 0, .int .i64 t109, .int .i64 (wrap64 (1 + t112)), .int .i64 (wrap64 (1 + t115)), .int .i64 0, .int .i64 0, .int .i64 0, .int .i64 0, .slice none 0 0]) ?_ 8 _ rfl; (with_reducible repeat (first | refine blk_drewN ?_ _ | refine blk_drew ?_ | refine blk_alloc ?_ _)); refine blk_put (cs := #[.int .i64 0, .int .i64 0, .int .i64 t109, .int .i64 (wrap64 (1 + t112)), .int .i64 (wrap64 (1 + t115)), .int .i64 0, .int .i64 0, .int .i64 0, .int .i64 0, .slice none 0 0]) ?_ 7 _ rfl; (with_reducible repeat (first | refine blk_drewN ?_ _ | refine blk_drew ?_ | refine blk_alloc ?_ _)); refine blk_put (cs := #[.int .i64 0, .int .i64 0, .int .i64 t109, .int .i64 (wrap64 (1 + t112)), .int .i64 (wrap64 (1 + t115)), .int .i64 0, .int .i64 0, .int .i64 0, .int .i64 0, .slice none 0 0]) ?_ 6 _ rfl; (with_reducible repeat (first | refine blk_drewN ?_ _ | refine blk_drew ?_ | refine blk_alloc ?_ _)); refine blk_put (cs := #[.int .i64 0, .int .i64 0, .int .i64 t109, .int .i64 (wrap64 (1 + t112)), .int .i64 (wrap64 (1 + t115)), .int .i64 0, .int .i64 0, .int .i64 0, .int .i64 0, .slice none 0 0]) ?_ 5 _ rfl; (with_reducible repeat (first | refine blk_drewN ?_ _ | refine blk_drew ?_ | refine blk_alloc ?_ _)); refine blk_put (cs := #[.int .i64 0, .int .i64 0, .int .i64 t109, .int .i64 (wrap64 (1 + t112)), .int .i64 0, .int .i64 0, .int .i64 0, .int .i64 0, .int .i64 0, .slice none 0 0]) ?_ 4 _ rfl; (with_reducible repeat (first | refine blk_drewN ?_ _ | refine blk_drew ?_ | refine blk_alloc ?_ _)); refine blk_put (cs := #[.int .i64 0, .int .i64 0, .int .i64 t109, .int .i64 0, .int .i64 0, .int .i64 0, .int .i64 0, .int .i64 0, .int .i64 0, .slice none 0 0]) ?_ 3 _ rfl; (with_reducible repeat (first | refine blk_drewN ?_ _ | refine blk_drew ?_ | refine blk_alloc ?_ _)); refine blk_put (cs := #[.int .i64 0, .int .i64 0, .int .i64 0, .int .i64 0, .int .i64 0, .int .i64 0, .int .i64 0, .int .i64 0, .int .i64 0, .slice none 0 0]) ?_ 2 _ rfl; (with_reducible repeat (first | refine blk_drewN ?_ _ | refine blk_drew ?_ | refine blk_alloc ?_ _)); refine blk_put (cs := #[.int .i64 0, .int .i64 0, .int .i64 0, .int .i64 0, .int .i64 0, .int .i64 0, .int .i64 0, .int .i64 0, .int .i64 0, .slice none 0 0]) ?_ 1 _ rfl; (with_reducible repeat (first | refine blk_drewN ?_ _ | refine blk_drew ?_ | refine blk_alloc ?_ _)); refine blk_put (cs := #[.int .i64 0, .int .i64 0, .int .i64 0, .int .i64 0, .int .i64 0, .int .i64 0, .int .i64 0, .int .i64 0, .int .i64 0, .slice none 0 0]) ?_ 0 _ rfl; (with_reducible repeat (first | refine blk_drewN ?_ _ | refine blk_drew ?_ | refine blk_alloc ?_ _)); exact BK135.out⟩
                      have n2_ : Aside0 (IsS68 w ((((((((((w52.setCell ⟨gb135, 0, none⟩ (.int .i64 0)).setCell ⟨gb135, 1, none⟩ (.int .i64 0)).setCell ⟨gb135, 2, none⟩ (.int .i64 t109)).setCell ⟨gb135, 3, none⟩ (.int .i64 (wrap64 (1 + t112)))).setCell ⟨gb135, 4, none⟩ (.int .i64 (wrap64 (1 + t115)))).setCell ⟨gb135, 5, none⟩ (.int .i64 0)).setCell ⟨gb135, 6, none⟩ (.int .i64 0)).setCell ⟨gb135, 7, none⟩ (.int .i64 0)).setCell ⟨gb135, 8, none⟩ (.int .i64 0)).setCell ⟨gb135, 9, none⟩ (.slice none 0 0)) g108 t105 t126 t127) := ⟨by repeat (first | (with_reducible first | exact HI108.out | apply IsS68.alloc | apply IsS68.drewN | apply IsS68.drew | apply IsS68.set_1 | apply IsS68.set_2 | refine IsS68.far ?_ NB108_118.out _ | refine IsS68.far ?_ NB108_135.out _) | exact HI108.out)⟩
                      have n3_ : Aside0 (Below w.heap.size w ((((((((((w52.setCell ⟨gb135, 0, none⟩ (.int .i64 0)).setCell ⟨gb135, 1, none⟩ (.int .i64 0)).setCell ⟨gb135, 2, none⟩ (.int .i64 t109)).setCell ⟨gb135, 3, none⟩ (.int .i64 (wrap64 (1 + t112)))).setCell ⟨gb135, 4, none⟩ (.int .i64 (wrap64 (1 + t115)))).setCell ⟨gb135, 5, none⟩ (.int .i64 0)).setCell ⟨gb135, 6, none⟩ (.int .i64 0)).setCell ⟨gb135, 7, none⟩ (.int .i64 0)).setCell ⟨gb135, 8, none⟩ (.int .i64 0)).setCell ⟨gb135, 9, none⟩ (.slice none 0 0))) := ⟨by repeat (first | (with_reducible first | exact HB.out | apply below_alloc | apply pw_below_drewN | apply below_drew1 | refine below_set ?_ (IsS68.ge HI108.out) | refine below_set ?_ GE118.out | refine below_set ?_ GE135.out) | exact HB.out)⟩
                      (try clear BK118)
                      (try clear BK135)
                      (try clear HI108)
                      (try clear HB)
                      generalize ((((((((((w52.setCell ⟨gb135, 0, none⟩ (.int .i64 0)).setCell ⟨gb135, 1, none⟩ (.int .i64 0)).setCell ⟨gb135, 2, none⟩ (.int .i64 t109)).setCell ⟨gb135, 3, none⟩ (.int .i64 (wrap64 (1 + t112)))).setCell ⟨gb135, 4, none⟩ (.int .i64 (wrap64 (1 + t115)))).setCell ⟨gb135, 5, none⟩ (.int .i64 0)).setCell ⟨gb135, 6, none⟩ (.int .i64 0)).setCell ⟨gb135, 7, none⟩ (.int .i64 0)).setCell ⟨gb135, 8, none⟩ (.int .i64 0)).setCell ⟨gb135, 9, none⟩ (.slice none 0 0)) = w56 at n0_ n1_ n2_ n3_ ⊢
                      have BK118 := n0_
                      have BK135 := n1_
                      have HI108 := n2_
                      have HB := n3_
                      clear n0_ n1_ n2_ n3_
                      have n0_ := Aside0.mk (blk_drew BK118.out)
                      have n1_ := Aside0.mk (blk_drew BK135.out)
                      have n2_ := Aside0.mk (IsS68.drew HI108.out)
                      have n3_ := Aside0.mk (below_drew1 HB.out)
                      clear BK118
                      clear BK135
                      clear HI108
                      clear HB
                      have BK118 := n0_
                      have BK135 := n1_
                      have HI108 := n2_
                      have HB := n3_
                      clear n0_ n1_ n2_ n3_
                      refine start_ (n := 7) (S := fun w' => w'.cell? ⟨gb135, 0, none⟩ = some (.int .i64 0) ∧ w'.cell? ⟨gb135, 1, none⟩ = some (.int .i64 0) ∧ w'.cell? ⟨gb135, 2, none⟩ = some (.int .i64 t109) ∧ w'.cell? ⟨gb135, 3, none⟩ = some (.int .i64 (wrap64 (1 + t112))) ∧ w'.cell? ⟨gb135, 4, none⟩ = some (.int .i64 (wrap64 (1 + t115))) ∧ w'.cell? ⟨gb135, 5, none⟩ = some (.int .i64 0) ∧ w'.cell? ⟨gb135, 6, none⟩ = some (.int .i64 0) ∧ w'.cell? ⟨gb135, 7, none⟩ = some (.int .i64 0) ∧ w'.cell? ⟨gb135, 8, none⟩ = some (.int .i64 0) ∧ w'.cell? ⟨gb135, 9, none⟩ = some (.slice none 0 0)) (ds := [6]) #[false, false, false, false, false, false, false] (by kernel_rfl) rfl rfl ⟨(blk_cell BK135.out 0).trans rfl, (blk_cell BK135.out 1).trans rfl, (blk_cell BK135.out 2).trans rfl, (blk_cell BK135.out 3).trans rfl, (blk_cell BK135.out 4).trans rfl, (blk_cell BK135.out 5).trans rfl, (blk_cell BK135.out 6).trans rfl, (blk_cell BK135.out 7).trans rfl, (blk_cell BK135.out 8).trans rfl, (blk_cell BK135.out 9).trans rfl⟩ (fun hHeld => ?_)
                      generalize w56.drew = w57 at BK118 BK135 HI108 HB hHeld ⊢
                      refine pure_ (i := 0) (N := some 76) (v := ?_) (a' := ?_) #[true, false, false, false, false, false, false] rfl rfl (by kernel_rfl) (fun _ _ _ h => h) (Or.inl ⟨by rfl, ?_⟩) ?_ ?_
                      rotate_left
                      · intro w'
                        go_simp
                        with_reducible rfl
                      rotate_left
                      · simp only [Act.put, List.setIfInBounds_toArray, List.set_cons_zero, List.set_cons_succ, i64_w, i32_w]
                        rfl
                      refine pure_ (i := 2) (N := some 78) (v := ?_) (a' := ?_) #[true, false, true, false, false, false, false] rfl rfl (by kernel_rfl) (fun _ _ _ h => h) (Or.inl ⟨by rfl, ?_⟩) ?_ ?_
                      rotate_left
                      · intro w'
                        go_simp
                        with_reducible rfl
                      rotate_left
                      · simp only [Act.put, List.setIfInBounds_toArray, List.set_cons_zero, List.set_cons_succ, i64_w, i32_w]
                        rfl
                      refine take_ (i := 1) (N := some 77) (v := ?_) (a' := ?_) #[true, true, true, false, false, false, false] rfl rfl (by kernel_rfl) (fun _ _ _ h => h) (Or.inl ⟨by rfl, ?_⟩) hHeld ?_ ?_
                      rotate_left
                      · rintro w' ⟨s0, s1, s2, s3, s4, s5, s6, s7, s8, s9⟩
                        go_simp
                        with_reducible rfl
                      rotate_left
                      · simp only [Act.put, List.setIfInBounds_toArray, List.set_cons_zero, List.set_cons_succ, i64_w, i32_w]
                        rfl
                      refine one_ (i := 3) (N := some 79) #[true, true, true, true, false, false, false] rfl rfl (by kernel_rfl) (by decide) (fun K hK => ?_)
                      refine goes_ Try.func20 (by kernel_rfl) rfl #[.pointer (some ⟨g108, 0, none⟩), .int .i64 512] (by rfl) rfl rfl (by (try simp only [List.map_toArray, List.map_cons, List.map_nil]); first | done | rfl | (simp only [List.length_drop, List.length_take]; rfl)) ?_
                      with_reducible refine (spec_l01Src_N.calls g108 t105 t126 t127 512 t136 t137 t138 w _ ?side1 ?side2 A48.out).mono ?_
                      (case side1 => repeat (first | (with_reducible first | exact HI108.out | apply IsS68.alloc | apply IsS68.drewN | apply IsS68.drew | apply IsS68.set_1 | apply IsS68.set_2 | refine IsS68.far ?_ NB108_118.out _ | refine IsS68.far ?_ NB108_135.out _) | exact HI108.out))
                      (case side2 => repeat (first | (with_reducible first | exact HB.out | apply below_alloc | apply pw_below_drewN | apply below_drew1 | refine below_set ?_ (IsS68.ge HI108.out) | refine below_set ?_ GE118.out | refine below_set ?_ GE135.out) | exact HB.out))
                      rintro e w58 ⟨rfl, hi, hb, hk⟩
                      refine ⟨_, rfl, ?_⟩
                      have n0_ := Aside0.mk (KeepBut.blk hk (g' := gb118) (o := .cells #[.int .i64 0, .int .i64 0, .int .i64 t109, .int .i64 (wrap64 (1 + t112)), .int .i64 (wrap64 (1 + t115)), .int .i64 0, .int .i64 0, .int .i64 0, .int .i64 0, .slice none 0 0] 31 (0, 0)) (by (with_reducible repeat (first | refine blk_drewN ?_ _ | refine blk_drew ?_ | refine blk_alloc ?_ _)); exact BK118.out) NB118_108.out (by simp))
                      have n1_ := Aside0.mk (KeepBut.blk hk (g' := gb135) (o := .cells #[.int .i64 0, .int .i64 0, .int .i64 t109, .int .i64 (wrap64 (1 + t112)), .int .i64 (wrap64 (1 + t115)), .int .i64 0, .int .i64 0, .int .i64 0, .int .i64 0, .slice none 0 0] 31 (0, 0)) (by (with_reducible repeat (first | refine blk_drewN ?_ _ | refine blk_drew ?_ | refine blk_alloc ?_ _)); exact BK135.out) NB135_108.out (by simp))
                      have n2_ := Aside0.mk (hb)
                      have n3_ := Aside0.mk (hi)
                      clear BK118
                      clear BK135
                      clear HB
                      clear HI108
                      have BK118 := n0_
                      have BK135 := n1_
                      have HB := n2_
                      have HI108 := n3_
                      clear n0_ n1_ n2_ n3_
                      (try clear hb)
                      (try clear hb2)
                      (try clear hk)
                      (try clear hi)
                      refine hK.out _ _ ⟨(blk_cell BK135.out 0).trans rfl, (blk_cell BK135.out 1).trans rfl, (blk_cell BK135.out 2).trans rfl, (blk_cell BK135.out 3).trans rfl, (blk_cell BK135.out 4).trans rfl, (blk_cell BK135.out 5).trans rfl, (blk_cell BK135.out 6).trans rfl, (blk_cell BK135.out 7).trans rfl, (blk_cell BK135.out 8).trans rfl, (blk_cell BK135.out 9).trans rfl⟩ (fun hHeld => ?_)
                      clear hK K
                      refine norm_ (a' := ?_) ?_ ?_
                      rotate_left
                      · show Act.put _ (some 79) _ = _
                        simp only [Act.put, List.setIfInBounds_toArray, List.set_cons_zero, List.set_cons_succ, i64_w, i32_w]
                        rfl
                      refine pure_ (i := 4) (N := some 80) (v := ?_) (a' := ?_) #[true, true, true, true, true, false, false] rfl rfl (by kernel_rfl) (fun _ _ _ h => h) (Or.inl ⟨by rfl, ?_⟩) ?_ ?_
                      rotate_left
                      · intro w'
                        go_simp
                        with_reducible rfl
                      rotate_left
                      · simp only [Act.put, List.setIfInBounds_toArray, List.set_cons_zero, List.set_cons_succ, i64_w, i32_w]
                        rfl
                      refine pure_ (i := 5) (N := some 81) (v := ?_) (a' := ?_) #[true, true, true, true, true, true, false] rfl rfl (by kernel_rfl) (fun _ _ _ h => h) (Or.inl ⟨by rfl, ?_⟩) ?_ ?_
                      rotate_left
                      · intro w'
                        go_simp
                        with_reducible rfl
                      rotate_left
                      · simp only [Act.put, List.setIfInBounds_toArray, List.set_cons_zero, List.set_cons_succ, i64_w, i32_w]
                        rfl
                      refine last_ (i := 6) (N := none) #[true, true, true, true, true, true, true] rfl rfl (by kernel_rfl) (by decide) (fun K hK => ?_)
                      have hs59 : w58.cell? ⟨gb135, 2, none⟩ = some (.int .i64 t109) := (blk_cell BK135.out 2).trans rfl
                      have hfs59 := blk_frozen BK135.out 2
                      have hns59_0 := NB118_135.out
                      have hms59_0 := NB135_118.out
                      refine skip_ (w1 := ?_) (by rfl) rfl ?_ ?_
                      rotate_left
                      · go_simp
                        rfl
                      refine hK.out _ _ ?_
                      clear hK K
                      refine done_ (by kernel_rfl) ?_
                      go_upto_region 22 with (fail)
                      go_cut [90] (fun v90 wc => ∃ (kq : Nat) (x90_48 : Bool), v90 = .bool x90_48 ∧ Aside0 (laws_FnAccess.j4 kq x4_1 (wrap64 (1 + t119)) (wrap64 (1 + t122)) t125 x9_2 x90_48 t105 t137 t138 0 0 t109 (wrap64 (1 + t112)) (wrap64 (1 + t115)) 0 0 0 0 = some r) ∧ Aside0 (kq ≤ kj34) ∧ Aside0 (wc.heap[gb118]? = some (.cells #[.int .i64 0, .int .i64 0, .int .i64 t109, .int .i64 (wrap64 (1 + t112)), .int .i64 (wrap64 (1 + t115)), .int .i64 0, .int .i64 0, .int .i64 0, .int .i64 0, (.slice none 0 0)] 31 (0, 0))) ∧ Aside0 (wc.heap[gb135]? = some (.cells #[.int .i64 0, .int .i64 0, .int .i64 (Go.bits .or .i64 t109 t136), .int .i64 (wrap64 (1 + t112)), .int .i64 (wrap64 (1 + t115)), .int .i64 0, .int .i64 0, .int .i64 0, .int .i64 0, (.slice none 0 0)] 31 (0, 0))) ∧ Aside0 (IsS68 w wc g108 t105 t137 t138) ∧ Aside0 (Below w.heap.size w wc))
                      case first =>
                        have H := HC49.out
                        clear HC49
                        by_cases c60 : x9_2 = true
                        · subst c60
                          have H1 : ((impl_MayAccess.f 0 0 (Go.bits .or .i64 t109 t136) (wrap64 (1 + t112)) (wrap64 (1 + t115)) 0 0 0 0 ([] : List Int) (wrap64 (1 + t119)) (wrap64 (1 + t122)) t125).bind fun t139 => (laws_FnAccess.j4 kj34 x4_1 (wrap64 (1 + t119)) (wrap64 (1 + t122)) t125 true (!t139) t105 t137 t138 0 0 t109 (wrap64 (1 + t112)) (wrap64 (1 + t115)) 0 0 0 0)) = some r := by rw [if_pos rfl] at H; exact H
                          clear H
                          have H := H1
                          clear H1
                          replace H := Option.bind_eq_some_iff.mp H
                          obtain ⟨t139, A610, H⟩ := H
                          replace H : (laws_FnAccess.j4 kj34 x4_1 (wrap64 (1 + t119)) (wrap64 (1 + t122)) t125 true (!t139) t105 t137 t138 0 0 t109 (wrap64 (1 + t112)) (wrap64 (1 + t115)) 0 0 0 0) = some r := H
                          have A61 := Aside0.mk A610
                          clear A610
                          have H' := Aside0.mk H
                          clear H
                          have hnb62 := NB135_118.out
                          have hnc62 := NB118_135.out
                          have hnb63 := NB135_108.out
                          have hnc63 := NB108_135.out
                          have hcz64_0 : w58.cell? ⟨gb135, 0, none⟩ = some (.int .i64 0) := (blk_cell BK135.out 0).trans rfl
                          have hcz64_1 : w58.cell? ⟨gb135, 1, none⟩ = some (.int .i64 0) := (blk_cell BK135.out 1).trans rfl
                          have hcz64_2 : w58.cell? ⟨gb135, 2, none⟩ = some (.int .i64 t109) := (blk_cell BK135.out 2).trans rfl
                          have hcz64_3 : w58.cell? ⟨gb135, 3, none⟩ = some (.int .i64 (wrap64 (1 + t112))) := (blk_cell BK135.out 3).trans rfl
                          have hcz64_4 : w58.cell? ⟨gb135, 4, none⟩ = some (.int .i64 (wrap64 (1 + t115))) := (blk_cell BK135.out 4).trans rfl
                          have hcz64_5 : w58.cell? ⟨gb135, 5, none⟩ = some (.int .i64 0) := (blk_cell BK135.out 5).trans rfl
                          have hcz64_6 : w58.cell? ⟨gb135, 6, none⟩ = some (.int .i64 0) := (blk_cell BK135.out 6).trans rfl
                          have hcz64_7 : w58.cell? ⟨gb135, 7, none⟩ = some (.int .i64 0) := (blk_cell BK135.out 7).trans rfl
                          have hcz64_8 : w58.cell? ⟨gb135, 8, none⟩ = some (.int .i64 0) := (blk_cell BK135.out 8).trans rfl
                          have hcz64_9 : w58.cell? ⟨gb135, 9, none⟩ = some (.slice none 0 0) := (blk_cell BK135.out 9).trans rfl
                          have hfz64_0 := blk_frozen BK135.out 0
                          have hfz64_1 := blk_frozen BK135.out 1
                          have hfz64_2 := blk_frozen BK135.out 2
                          have hfz64_3 := blk_frozen BK135.out 3
                          have hfz64_4 := blk_frozen BK135.out 4
                          have hfz64_5 := blk_frozen BK135.out 5
                          have hfz64_6 := blk_frozen BK135.out 6
                          have hfz64_7 := blk_frozen BK135.out 7
                          have hfz64_8 := blk_frozen BK135.out 8
                          have hfz64_9 := blk_frozen BK135.out 9
                          go_wp2_with (first | (go_at_call 21; (refine (impl_MayAccess.calls 0 0 (Go.bits .or .i64 t109 t136) (wrap64 (1 + t112)) (wrap64 (1 + t115)) 0 0 0 0 _ _ ([] : List Int) (wrap64 (1 + t119)) (wrap64 (1 + t122)) t125 t139 _ ?side1 ?side2 A61.out).mono ?_); (case side1 => exact Kd.C_nil _ _); (case side2 => exact Nat.le_refl _); rintro e w65 ⟨rfl, hb⟩; have n0_ := Aside0.mk (blk_below (g := gb118) (o := .cells #[.int .i64 0, .int .i64 0, .int .i64 t109, .int .i64 (wrap64 (1 + t112)), .int .i64 (wrap64 (1 + t115)), .int .i64 0, .int .i64 0, .int .i64 0, .int .i64 0, .slice none 0 0] 31 (0, 0)) (by (with_reducible repeat (first | refine blk_drewN ?_ _ | refine blk_drew ?_ | refine blk_alloc ?_ _)); refine blk_far ?_ NB118_135.out _; (with_reducible repeat (first | refine blk_drewN ?_ _ | refine blk_drew ?_ | refine blk_alloc ?_ _)); exact BK118.out) hb); have n1_ := Aside0.mk (IsS68.below (show IsS68 w (w58.setCell ⟨gb135, 2, none⟩ (.int .i64 (Go.bits .or .i64 t109 t136))) g108 t105 t137 t138 from by repeat (first | (with_reducible first | exact HI108.out | apply IsS68.alloc | apply IsS68.drewN | apply IsS68.drew | apply IsS68.set_1 | apply IsS68.set_2 | refine IsS68.far ?_ NB108_118.out _ | refine IsS68.far ?_ NB108_135.out _) | exact HI108.out)) hb); have n2_ := Aside0.mk (blk_below (g := gb135) (o := .cells #[.int .i64 0, .int .i64 0, .int .i64 (Go.bits .or .i64 t109 t136), .int .i64 (wrap64 (1 + t112)), .int .i64 (wrap64 (1 + t115)), .int .i64 0, .int .i64 0, .int .i64 0, .int .i64 0, .slice none 0 0] 31 (0, 0)) (by (with_reducible repeat (first | refine blk_drewN ?_ _ | refine blk_drew ?_ | refine blk_alloc ?_ _)); refine blk_put (cs := #[.int .i64 0, .int .i64 0, .int .i64 t109, .int .i64 (wrap64 (1 + t112)), .int .i64 (wrap64 (1 + t115)), .int .i64 0, .int .i64 0, .int .i64 0, .int .i64 0, .slice none 0 0]) ?_ 2 _ rfl; (with_reducible repeat (first | refine blk_drewN ?_ _ | refine blk_drew ?_ | refine blk_alloc ?_ _)); exact BK135.out) hb); have n3_ := Aside0.mk (below_step (by repeat (first | (with_reducible first | exact HB.out | apply below_alloc | apply pw_below_drewN | apply below_drew1 | refine below_set ?_ (IsS68.ge HI108.out) | refine below_set ?_ GE118.out | refine below_set ?_ GE135.out) | exact HB.out)) hb); clear BK118; clear HI108; clear BK135; clear HB; have BK118 := n0_; have HI108 := n1_; have BK135 := n2_; have HB := n3_; clear n0_ n1_ n2_ n3_; (try clear hb); (try clear hb2); (try clear hk); (try clear hi)))
                          go_meet
                          case rel => exact ⟨_, (!t139), (by first | rfl | (simp; done) | (simp [*]; done)), H', ⟨by have := HK1.out; have := HK2.out; have := HJ34.out; first | omega | exact Nat.le_refl _⟩, ⟨by (with_reducible repeat (first | refine blk_drewN ?_ _ | refine blk_drew ?_ | refine blk_alloc ?_ _)); exact BK118.out⟩, ⟨by (with_reducible repeat (first | refine blk_drewN ?_ _ | refine blk_drew ?_ | refine blk_alloc ?_ _)); exact BK135.out⟩, ⟨by repeat (first | (with_reducible first | exact HI108.out | apply IsS68.alloc | apply IsS68.drewN | apply IsS68.drew | apply IsS68.set_1 | apply IsS68.set_2 | refine IsS68.far ?_ NB108_118.out _ | refine IsS68.far ?_ NB108_135.out _) | exact HI108.out)⟩, ⟨by repeat (first | (with_reducible first | exact HB.out | apply below_alloc | apply pw_below_drewN | apply below_drew1 | refine below_set ?_ (IsS68.ge HI108.out) | refine below_set ?_ GE118.out | refine below_set ?_ GE135.out) | exact HB.out)⟩⟩
                        · replace c60 := Bool.eq_false_iff.mpr c60
                          subst c60
                          have H1 : (laws_FnAccess.j4 kj34 x4_1 (wrap64 (1 + t119)) (wrap64 (1 + t122)) t125 false false t105 t137 t138 0 0 t109 (wrap64 (1 + t112)) (wrap64 (1 + t115)) 0 0 0 0) = some r := by rw [if_neg (show ¬ (false = true) by decide)] at H; exact H
                          clear H
                          have H := H1
                          clear H1
                          have H' := Aside0.mk H
                          clear H
                          go_wp2
                          go_meet
                          case rel => exact ⟨_, (false), (by first | rfl | (simp; done) | (simp [*]; done)), H', ⟨by have := HK1.out; have := HK2.out; have := HJ34.out; first | omega | exact Nat.le_refl _⟩, ⟨by (with_reducible repeat (first | refine blk_drewN ?_ _ | refine blk_drew ?_ | refine blk_alloc ?_ _)); refine blk_far ?_ NB118_135.out _; (with_reducible repeat (first | refine blk_drewN ?_ _ | refine blk_drew ?_ | refine blk_alloc ?_ _)); exact BK118.out⟩, ⟨by (with_reducible repeat (first | refine blk_drewN ?_ _ | refine blk_drew ?_ | refine blk_alloc ?_ _)); refine blk_put (cs := #[.int .i64 0, .int .i64 0, .int .i64 t109, .int .i64 (wrap64 (1 + t112)), .int .i64 (wrap64 (1 + t115)), .int .i64 0, .int .i64 0, .int .i64 0, .int .i64 0, .slice none 0 0]) ?_ 2 _ rfl; (with_reducible repeat (first | refine blk_drewN ?_ _ | refine blk_drew ?_ | refine blk_alloc ?_ _)); exact BK135.out⟩, ⟨by repeat (first | (with_reducible first | exact HI108.out | apply IsS68.alloc | apply IsS68.drewN | apply IsS68.drew | apply IsS68.set_1 | apply IsS68.set_2 | refine IsS68.far ?_ NB108_118.out _ | refine IsS68.far ?_ NB108_135.out _) | exact HI108.out)⟩, ⟨by repeat (first | (with_reducible first | exact HB.out | apply below_alloc | apply pw_below_drewN | apply below_drew1 | refine below_set ?_ (IsS68.ge HI108.out) | refine below_set ?_ GE118.out | refine below_set ?_ GE135.out) | exact HB.out)⟩⟩
                      case rest =>
                        clear HC49
                        try clear c1
                        try clear p1
                        try clear q1
                        try clear hx1
                        try clear c2
                        try clear c2b0
                        try clear c2b1
                        try clear p2
                        try clear c3
                        try clear c4
                        try clear c5
                        try clear c5b0
                        try clear c6
                        try clear p6
                        try clear p13
                        try clear q13
                        try clear hx13
                        try clear c16
                        try clear c19
                        try clear c20
                        try clear c21
                        try clear c24
                        try clear c24b0
                        try clear c25
                        try clear c25b0
                        try clear c26
                        try clear c26b0
                        try clear c28
                        try clear c28b0
                        try clear c28b1
                        try clear c29
                        try clear c29b0
                        try clear c29b1
                        try clear c31
                        try clear c34
                        try clear c37
                        try clear c37b0
                        try clear c37b1
                        try clear c37b2
                        try clear c38
                        try clear c42
                        try clear c47
                        try clear c50
                        try clear c53
                        try clear c54
                        try clear c60
                        try clear c62
                        try clear c63
                        try clear p64
                        try clear hcz17_0
                        try clear hcz17_1
                        try clear hcz17_2
                        try clear hcz17_3
                        try clear hcz17_4
                        try clear hcz17_5
                        try clear hcz17_6
                        try clear hcz17_7
                        try clear hcz17_8
                        try clear hcz17_9
                        try clear hcz32_0
                        try clear hcz32_1
                        try clear hcz32_2
                        try clear hcz32_3
                        try clear hcz32_4
                        try clear hcz32_5
                        try clear hcz32_6
                        try clear hcz32_7
                        try clear hcz32_8
                        try clear hcz32_9
                        try clear hcz39_0
                        try clear hcz39_1
                        try clear hcz39_2
                        try clear hcz39_3
                        try clear hcz39_4
                        try clear hcz39_5
                        try clear hcz39_6
                        try clear hcz39_7
                        try clear hcz39_8
                        try clear hcz39_9
                        try clear hcz43_0
                        try clear hcz43_1
                        try clear hcz43_2
                        try clear hcz43_3
                        try clear hcz43_4
                        try clear hcz43_5
                        try clear hcz43_6
                        try clear hcz43_7
                        try clear hcz43_8
                        try clear hcz43_9
                        try clear hcz45_0
                        try clear hcz45_1
                        try clear hcz45_2
                        try clear hcz45_3
                        try clear hcz45_4
                        try clear hcz45_5
                        try clear hcz45_6
                        try clear hcz45_7
                        try clear hcz45_8
                        try clear hcz45_9
                        try clear hcz51_0
                        try clear hcz51_1
                        try clear hcz51_2
                        try clear hcz51_3
                        try clear hcz51_4
                        try clear hcz51_5
                        try clear hcz51_6
                        try clear hcz51_7
                        try clear hcz51_8
                        try clear hcz51_9
                        try clear hcz55_0
                        try clear hcz55_1
                        try clear hcz55_2
                        try clear hcz55_3
                        try clear hcz55_4
                        try clear hcz55_5
                        try clear hcz55_6
                        try clear hcz55_7
                        try clear hcz55_8
                        try clear hcz55_9
                        try clear hcz64_0
                        try clear hcz64_1
                        try clear hcz64_2
                        try clear hcz64_3
                        try clear hcz64_4
                        try clear hcz64_5
                        try clear hcz64_6
                        try clear hcz64_7
                        try clear hcz64_8
                        try clear hcz64_9
                        try clear hfz17_0
                        try clear hfz17_1
                        try clear hfz17_2
                        try clear hfz17_3
                        try clear hfz17_4
                        try clear hfz17_5
                        try clear hfz17_6
                        try clear hfz17_7
                        try clear hfz17_8
                        try clear hfz17_9
                        try clear hfz32_0
                        try clear hfz32_1
                        try clear hfz32_2
                        try clear hfz32_3
                        try clear hfz32_4
                        try clear hfz32_5
                        try clear hfz32_6
                        try clear hfz32_7
                        try clear hfz32_8
                        try clear hfz32_9
                        try clear hfz39_0
                        try clear hfz39_1
                        try clear hfz39_2
                        try clear hfz39_3
                        try clear hfz39_4
                        try clear hfz39_5
                        try clear hfz39_6
                        try clear hfz39_7
                        try clear hfz39_8
                        try clear hfz39_9
                        try clear hfz43_0
                        try clear hfz43_1
                        try clear hfz43_2
                        try clear hfz43_3
                        try clear hfz43_4
                        try clear hfz43_5
                        try clear hfz43_6
                        try clear hfz43_7
                        try clear hfz43_8
                        try clear hfz43_9
                        try clear hfz45_0
                        try clear hfz45_1
                        try clear hfz45_2
                        try clear hfz45_3
                        try clear hfz45_4
                        try clear hfz45_5
                        try clear hfz45_6
                        try clear hfz45_7
                        try clear hfz45_8
                        try clear hfz45_9
                        try clear hfz51_0
                        try clear hfz51_1
                        try clear hfz51_2
                        try clear hfz51_3
                        try clear hfz51_4
                        try clear hfz51_5
                        try clear hfz51_6
                        try clear hfz51_7
                        try clear hfz51_8
                        try clear hfz51_9
                        try clear hfz55_0
                        try clear hfz55_1
                        try clear hfz55_2
                        try clear hfz55_3
                        try clear hfz55_4
                        try clear hfz55_5
                        try clear hfz55_6
                        try clear hfz55_7
                        try clear hfz55_8
                        try clear hfz55_9
                        try clear hfz64_0
                        try clear hfz64_1
                        try clear hfz64_2
                        try clear hfz64_3
                        try clear hfz64_4
                        try clear hfz64_5
                        try clear hfz64_6
                        try clear hfz64_7
                        try clear hfz64_8
                        try clear hfz64_9
                        try clear hx131_0
                        try clear p1
                        try clear p13
                        try clear p131
                        try clear p2
                        try clear p6
                        try clear q1
                        try clear q13
                        try clear q131
                        obtain ⟨kq, x90_48, rfl, HA, HJ48, BK118, BK135, HI108, HB⟩ := hcut
                        cases kq with
                        | zero => exact absurd HA.out (by simp [laws_FnAccess.j4])
                        | succ kj48 =>
                          have H := HA.out
                          clear HA
                          simp only [laws_FnAccess.j4] at H
                          by_cases c66 : x90_48 = true
                          · subst c66
                            have H1 : (some false) = some r := by rw [if_pos rfl] at H; exact H
                            clear H
                            have H := H1
                            clear H1
                            obtain rfl := Option.some.inj H
                            go_wp2
                            go_ret
                            exact ⟨by first | rfl | (simp [errW_none, errW_some] <;> rfl) | (simp [*, errW_none, errW_some] <;> rfl), by repeat (first | (with_reducible first | exact HB.out | apply below_alloc | apply pw_below_drewN | apply below_drew1 | refine below_set ?_ (IsS68.ge HI108.out) | refine below_set ?_ GE118.out | refine below_set ?_ GE135.out) | exact HB.out)⟩
                          · replace c66 := Bool.eq_false_iff.mpr c66
                            subst c66
                            have H1 : (if (wrap64 (1 + t119)) = (wrap64 (1 + t112)) then (laws_FnAccess.j5 kj48 x4_1 (wrap64 (1 + t119)) (wrap64 (1 + t122)) t125 x9_2 6 t105 t137 t138 0 0 t109 (wrap64 (1 + t112)) (wrap64 (1 + t115)) 0 0 0 0) else (if (wrap64 (1 + t122)) = (wrap64 (1 + t115)) then (laws_FnAccess.j5 kj48 x4_1 (wrap64 (1 + t119)) (wrap64 (1 + t122)) t125 x9_2 3 t105 t137 t138 0 0 t109 (wrap64 (1 + t112)) (wrap64 (1 + t115)) 0 0 0 0) else (laws_FnAccess.j5 kj48 x4_1 (wrap64 (1 + t119)) (wrap64 (1 + t122)) t125 x9_2 0 t105 t137 t138 0 0 t109 (wrap64 (1 + t112)) (wrap64 (1 + t115)) 0 0 0 0))) = some r := by rw [if_neg (show ¬ (false = true) by decide)] at H; exact H
                            clear H
                            have H := H1
                            clear H1
                            have HC67 := Aside0.mk H
                            clear H
                            have hnb68 := NB118_135.out
                            have hnc68 := NB135_118.out
                            have hnb69 := NB118_108.out
                            have hnc69 := NB108_118.out
                            have hcz70_0 : wc.cell? ⟨gb118, 0, none⟩ = some (.int .i64 0) := (blk_cell BK118.out 0).trans rfl
                            have hcz70_1 : wc.cell? ⟨gb118, 1, none⟩ = some (.int .i64 0) := (blk_cell BK118.out 1).trans rfl
                            have hcz70_2 : wc.cell? ⟨gb118, 2, none⟩ = some (.int .i64 t109) := (blk_cell BK118.out 2).trans rfl
                            have hcz70_3 : wc.cell? ⟨gb118, 3, none⟩ = some (.int .i64 (wrap64 (1 + t112))) := (blk_cell BK118.out 3).trans rfl
                            have hcz70_4 : wc.cell? ⟨gb118, 4, none⟩ = some (.int .i64 (wrap64 (1 + t115))) := (blk_cell BK118.out 4).trans rfl
                            have hcz70_5 : wc.cell? ⟨gb118, 5, none⟩ = some (.int .i64 0) := (blk_cell BK118.out 5).trans rfl
                            have hcz70_6 : wc.cell? ⟨gb118, 6, none⟩ = some (.int .i64 0) := (blk_cell BK118.out 6).trans rfl
                            have hcz70_7 : wc.cell? ⟨gb118, 7, none⟩ = some (.int .i64 0) := (blk_cell BK118.out 7).trans rfl
                            have hcz70_8 : wc.cell? ⟨gb118, 8, none⟩ = some (.int .i64 0) := (blk_cell BK118.out 8).trans rfl
                            have hcz70_9 : wc.cell? ⟨gb118, 9, none⟩ = some (.slice none 0 0) := (blk_cell BK118.out 9).trans rfl
                            have hfz70_0 := blk_frozen BK118.out 0
                            have hfz70_1 := blk_frozen BK118.out 1
                            have hfz70_2 := blk_frozen BK118.out 2
                            have hfz70_3 := blk_frozen BK118.out 3
                            have hfz70_4 := blk_frozen BK118.out 4
                            have hfz70_5 := blk_frozen BK118.out 5
                            have hfz70_6 := blk_frozen BK118.out 6
                            have hfz70_7 := blk_frozen BK118.out 7
                            have hfz70_8 := blk_frozen BK118.out 8
                            have hfz70_9 := blk_frozen BK118.out 9
                            go_upto_if 94 with (fail)
                            go_cut [13] (fun v13 wc => ∃ (kq : Nat) (x13_66 : Int), v13 = .int .i64 x13_66 ∧ Aside0 (laws_FnAccess.j5 kq x4_1 (wrap64 (1 + t119)) (wrap64 (1 + t122)) t125 x9_2 x13_66 t105 t137 t138 0 0 t109 (wrap64 (1 + t112)) (wrap64 (1 + t115)) 0 0 0 0 = some r) ∧ Aside0 (kq ≤ kj48) ∧ Aside0 (wc.heap[gb118]? = some (.cells #[.int .i64 0, .int .i64 0, .int .i64 t109, .int .i64 (wrap64 (1 + t112)), .int .i64 (wrap64 (1 + t115)), .int .i64 0, .int .i64 0, .int .i64 0, .int .i64 0, (.slice none 0 0)] 31 (0, 0))) ∧ Aside0 (wc.heap[gb135]? = some (.cells #[.int .i64 0, .int .i64 0, .int .i64 (Go.bits .or .i64 t109 t136), .int .i64 (wrap64 (1 + t112)), .int .i64 (wrap64 (1 + t115)), .int .i64 0, .int .i64 0, .int .i64 0, .int .i64 0, (.slice none 0 0)] 31 (0, 0))) ∧ Aside0 (IsS68 w wc g108 t105 t137 t138) ∧ Aside0 (Below w.heap.size w wc))
                            case first =>
                              have H := HC67.out
                              clear HC67
                              by_cases c71 : (wrap64 (1 + t119)) = (wrap64 (1 + t112))
                              · rw [if_pos c71] at H
                                have c71b0 : ((wrap64 (1 + t119)) == (wrap64 (1 + t112))) = true := beq_iff_eq.mpr c71
                                have c71b1 : ((wrap64 (1 + t119)) != (wrap64 (1 + t112))) = false := bne_eq_false_iff_eq.mpr c71
                                clear c71
                                (first | rw [c71b0] | (simp only [i64_w, i32_w]; rw [c71b0]) | skip)
                                have H' := Aside0.mk H
                                clear H
                                go_wp2
                                go_meet
                                case rel => exact ⟨_, (6), (by first | rfl | (simp; done) | (simp [*]; done)), H', ⟨by have := HK1.out; have := HK2.out; have := HJ34.out; have := HJ48.out; first | omega | exact Nat.le_refl _⟩, ⟨by (with_reducible repeat (first | refine blk_drewN ?_ _ | refine blk_drew ?_ | refine blk_alloc ?_ _)); exact BK118.out⟩, ⟨by (with_reducible repeat (first | refine blk_drewN ?_ _ | refine blk_drew ?_ | refine blk_alloc ?_ _)); exact BK135.out⟩, ⟨by repeat (first | (with_reducible first | exact HI108.out | apply IsS68.alloc | apply IsS68.drewN | apply IsS68.drew | apply IsS68.set_1 | apply IsS68.set_2 | refine IsS68.far ?_ NB108_118.out _ | refine IsS68.far ?_ NB108_135.out _) | exact HI108.out)⟩, ⟨by repeat (first | (with_reducible first | exact HB.out | apply below_alloc | apply pw_below_drewN | apply below_drew1 | refine below_set ?_ (IsS68.ge HI108.out) | refine below_set ?_ GE118.out | refine below_set ?_ GE135.out) | exact HB.out)⟩⟩
                              · rw [if_neg c71] at H
                                have c71b0 : ((wrap64 (1 + t119)) == (wrap64 (1 + t112))) = false := beq_eq_false_iff_ne.mpr c71
                                have c71b1 : ((wrap64 (1 + t119)) != (wrap64 (1 + t112))) = true := bne_iff_ne.mpr c71
                                (first | rw [c71b0] | (simp only [i64_w, i32_w]; rw [c71b0]) | skip)
                                by_cases c72 : (wrap64 (1 + t122)) = (wrap64 (1 + t115))
                                · rw [if_pos c72] at H
                                  have c72b0 : ((wrap64 (1 + t122)) == (wrap64 (1 + t115))) = true := beq_iff_eq.mpr c72
                                  have c72b1 : ((wrap64 (1 + t122)) != (wrap64 (1 + t115))) = false := bne_eq_false_iff_eq.mpr c72
                                  clear c72
                                  have H' := Aside0.mk H
                                  clear H
                                  have hnb73 := NB118_135.out
                                  have hnc73 := NB135_118.out
                                  have hnb74 := NB118_108.out
                                  have hnc74 := NB108_118.out
                                  have hcz75_0 : wc.cell? ⟨gb118, 0, none⟩ = some (.int .i64 0) := (blk_cell BK118.out 0).trans rfl
                                  have hcz75_1 : wc.cell? ⟨gb118, 1, none⟩ = some (.int .i64 0) := (blk_cell BK118.out 1).trans rfl
                                  have hcz75_2 : wc.cell? ⟨gb118, 2, none⟩ = some (.int .i64 t109) := (blk_cell BK118.out 2).trans rfl
                                  have hcz75_3 : wc.cell? ⟨gb118, 3, none⟩ = some (.int .i64 (wrap64 (1 + t112))) := (blk_cell BK118.out 3).trans rfl
                                  have hcz75_4 : wc.cell? ⟨gb118, 4, none⟩ = some (.int .i64 (wrap64 (1 + t115))) := (blk_cell BK118.out 4).trans rfl
                                  have hcz75_5 : wc.cell? ⟨gb118, 5, none⟩ = some (.int .i64 0) := (blk_cell BK118.out 5).trans rfl
                                  have hcz75_6 : wc.cell? ⟨gb118, 6, none⟩ = some (.int .i64 0) := (blk_cell BK118.out 6).trans rfl
                                  have hcz75_7 : wc.cell? ⟨gb118, 7, none⟩ = some (.int .i64 0) := (blk_cell BK118.out 7).trans rfl
                                  have hcz75_8 : wc.cell? ⟨gb118, 8, none⟩ = some (.int .i64 0) := (blk_cell BK118.out 8).trans rfl
                                  have hcz75_9 : wc.cell? ⟨gb118, 9, none⟩ = some (.slice none 0 0) := (blk_cell BK118.out 9).trans rfl
                                  have hfz75_0 := blk_frozen BK118.out 0
                                  have hfz75_1 := blk_frozen BK118.out 1
                                  have hfz75_2 := blk_frozen BK118.out 2
                                  have hfz75_3 := blk_frozen BK118.out 3
                                  have hfz75_4 := blk_frozen BK118.out 4
                                  have hfz75_5 := blk_frozen BK118.out 5
                                  have hfz75_6 := blk_frozen BK118.out 6
                                  have hfz75_7 := blk_frozen BK118.out 7
                                  have hfz75_8 := blk_frozen BK118.out 8
                                  have hfz75_9 := blk_frozen BK118.out 9
                                  go_wp2
                                  go_meet
                                  case rel => exact ⟨_, (3), (by first | rfl | (simp; done) | (simp [*]; done)), H', ⟨by have := HK1.out; have := HK2.out; have := HJ34.out; have := HJ48.out; first | omega | exact Nat.le_refl _⟩, ⟨by (with_reducible repeat (first | refine blk_drewN ?_ _ | refine blk_drew ?_ | refine blk_alloc ?_ _)); exact BK118.out⟩, ⟨by (with_reducible repeat (first | refine blk_drewN ?_ _ | refine blk_drew ?_ | refine blk_alloc ?_ _)); exact BK135.out⟩, ⟨by repeat (first | (with_reducible first | exact HI108.out | apply IsS68.alloc | apply IsS68.drewN | apply IsS68.drew | apply IsS68.set_1 | apply IsS68.set_2 | refine IsS68.far ?_ NB108_118.out _ | refine IsS68.far ?_ NB108_135.out _) | exact HI108.out)⟩, ⟨by repeat (first | (with_reducible first | exact HB.out | apply below_alloc | apply pw_below_drewN | apply below_drew1 | refine below_set ?_ (IsS68.ge HI108.out) | refine below_set ?_ GE118.out | refine below_set ?_ GE135.out) | exact HB.out)⟩⟩
                                · rw [if_neg c72] at H
                                  have c72b0 : ((wrap64 (1 + t122)) == (wrap64 (1 + t115))) = false := beq_eq_false_iff_ne.mpr c72
                                  have c72b1 : ((wrap64 (1 + t122)) != (wrap64 (1 + t115))) = true := bne_iff_ne.mpr c72
                                  have H' := Aside0.mk H
                                  clear H
                                  have hnb76 := NB118_135.out
                                  have hnc76 := NB135_118.out
                                  have hnb77 := NB118_108.out
                                  have hnc77 := NB108_118.out
                                  have hcz78_0 : wc.cell? ⟨gb118, 0, none⟩ = some (.int .i64 0) := (blk_cell BK118.out 0).trans rfl
                                  have hcz78_1 : wc.cell? ⟨gb118, 1, none⟩ = some (.int .i64 0) := (blk_cell BK118.out 1).trans rfl
                                  have hcz78_2 : wc.cell? ⟨gb118, 2, none⟩ = some (.int .i64 t109) := (blk_cell BK118.out 2).trans rfl
                                  have hcz78_3 : wc.cell? ⟨gb118, 3, none⟩ = some (.int .i64 (wrap64 (1 + t112))) := (blk_cell BK118.out 3).trans rfl
                                  have hcz78_4 : wc.cell? ⟨gb118, 4, none⟩ = some (.int .i64 (wrap64 (1 + t115))) := (blk_cell BK118.out 4).trans rfl
                                  have hcz78_5 : wc.cell? ⟨gb118, 5, none⟩ = some (.int .i64 0) := (blk_cell BK118.out 5).trans rfl
                                  have hcz78_6 : wc.cell? ⟨gb118, 6, none⟩ = some (.int .i64 0) := (blk_cell BK118.out 6).trans rfl
                                  have hcz78_7 : wc.cell? ⟨gb118, 7, none⟩ = some (.int .i64 0) := (blk_cell BK118.out 7).trans rfl
                                  have hcz78_8 : wc.cell? ⟨gb118, 8, none⟩ = some (.int .i64 0) := (blk_cell BK118.out 8).trans rfl
                                  have hcz78_9 : wc.cell? ⟨gb118, 9, none⟩ = some (.slice none 0 0) := (blk_cell BK118.out 9).trans rfl
                                  have hfz78_0 := blk_frozen BK118.out 0
                                  have hfz78_1 := blk_frozen BK118.out 1
                                  have hfz78_2 := blk_frozen BK118.out 2
                                  have hfz78_3 := blk_frozen BK118.out 3
                                  have hfz78_4 := blk_frozen BK118.out 4
                                  have hfz78_5 := blk_frozen BK118.out 5
                                  have hfz78_6 := blk_frozen BK118.out 6
                                  have hfz78_7 := blk_frozen BK118.out 7
                                  have hfz78_8 := blk_frozen BK118.out 8
                                  have hfz78_9 := blk_frozen BK118.out 9
                                  go_wp2
                                  go_meet
                                  case rel => exact ⟨_, (0), (by first | rfl | (simp; done) | (simp [*]; done)), H', ⟨by have := HK1.out; have := HK2.out; have := HJ34.out; have := HJ48.out; first | omega | exact Nat.le_refl _⟩, ⟨by (with_reducible repeat (first | refine blk_drewN ?_ _ | refine blk_drew ?_ | refine blk_alloc ?_ _)); exact BK118.out⟩, ⟨by (with_reducible repeat (first | refine blk_drewN ?_ _ | refine blk_drew ?_ | refine blk_alloc ?_ _)); exact BK135.out⟩, ⟨by repeat (first | (with_reducible first | exact HI108.out | apply IsS68.alloc | apply IsS68.drewN | apply IsS68.drew | apply IsS68.set_1 | apply IsS68.set_2 | refine IsS68.far ?_ NB108_118.out _ | refine IsS68.far ?_ NB108_135.out _) | exact HI108.out)⟩, ⟨by repeat (first | (with_reducible first | exact HB.out | apply below_alloc | apply pw_below_drewN | apply below_drew1 | refine below_set ?_ (IsS68.ge HI108.out) | refine below_set ?_ GE118.out | refine below_set ?_ GE135.out) | exact HB.out)⟩⟩
                            case rest =>
                              clear HC67
                              try clear c1
                              try clear p1
                              try clear q1
                              try clear hx1
                              try clear c2
                              try clear c2b0
                              try clear c2b1
                              try clear p2
                              try clear c3
                              try clear c4
                              try clear c5
                              try clear c5b0
                              try clear c6
                              try clear p6
                              try clear c7
                              try clear p13
                              try clear q13
                              try clear hx13
                              try clear c16
                              try clear c19
                              try clear c20
                              try clear c21
                              try clear c24
                              try clear c24b0
                              try clear c25
                              try clear c25b0
                              try clear c26
                              try clear c26b0
                              try clear c28
                              try clear c28b0
                              try clear c28b1
                              try clear c29
                              try clear c29b0
                              try clear c29b1
                              try clear c31
                              try clear c34
                              try clear c37
                              try clear c37b0
                              try clear c37b1
                              try clear c37b2
                              try clear c38
                              try clear c42
                              try clear c47
                              try clear c50
                              try clear c53
                              try clear c54
                              try clear c60
                              try clear c62
                              try clear c63
                              try clear p64
                              try clear c66
                              try clear c68
                              try clear c69
                              try clear c71
                              try clear c71b0
                              try clear c71b1
                              try clear c72
                              try clear c72b0
                              try clear c72b1
                              try clear c73
                              try clear c74
                              try clear c76
                              try clear c77
                              try clear hcz17_0
                              try clear hcz17_1
                              try clear hcz17_2
                              try clear hcz17_3
                              try clear hcz17_4
                              try clear hcz17_5
                              try clear hcz17_6
                              try clear hcz17_7
                              try clear hcz17_8
                              try clear hcz17_9
                              try clear hcz32_0
                              try clear hcz32_1
                              try clear hcz32_2
                              try clear hcz32_3
                              try clear hcz32_4
                              try clear hcz32_5
                              try clear hcz32_6
                              try clear hcz32_7
                              try clear hcz32_8
                              try clear hcz32_9
                              try clear hcz39_0
                              try clear hcz39_1
                              try clear hcz39_2
                              try clear hcz39_3
                              try clear hcz39_4
                              try clear hcz39_5
                              try clear hcz39_6
                              try clear hcz39_7
                              try clear hcz39_8
                              try clear hcz39_9
                              try clear hcz43_0
                              try clear hcz43_1
                              try clear hcz43_2
                              try clear hcz43_3
                              try clear hcz43_4
                              try clear hcz43_5
                              try clear hcz43_6
                              try clear hcz43_7
                              try clear hcz43_8
                              try clear hcz43_9
                              try clear hcz45_0
                              try clear hcz45_1
                              try clear hcz45_2
                              try clear hcz45_3
                              try clear hcz45_4
                              try clear hcz45_5
                              try clear hcz45_6
                              try clear hcz45_7
                              try clear hcz45_8
                              try clear hcz45_9
                              try clear hcz51_0
                              try clear hcz51_1
                              try clear hcz51_2
                              try clear hcz51_3
                              try clear hcz51_4
                              try clear hcz51_5
                              try clear hcz51_6
                              try clear hcz51_7
                              try clear hcz51_8
                              try clear hcz51_9
                              try clear hcz55_0
                              try clear hcz55_1
                              try clear hcz55_2
                              try clear hcz55_3
                              try clear hcz55_4
                              try clear hcz55_5
                              try clear hcz55_6
                              try clear hcz55_7
                              try clear hcz55_8
                              try clear hcz55_9
                              try clear hcz64_0
                              try clear hcz64_1
                              try clear hcz64_2
                              try clear hcz64_3
                              try clear hcz64_4
                              try clear hcz64_5
                              try clear hcz64_6
                              try clear hcz64_7
                              try clear hcz64_8
                              try clear hcz64_9
                              try clear hcz70_0
                              try clear hcz70_1
                              try clear hcz70_2
                              try clear hcz70_3
                              try clear hcz70_4
                              try clear hcz70_5
                              try clear hcz70_6
                              try clear hcz70_7
                              try clear hcz70_8
                              try clear hcz70_9
                              try clear hcz75_0
                              try clear hcz75_1
                              try clear hcz75_2
                              try clear hcz75_3
                              try clear hcz75_4
                              try clear hcz75_5
                              try clear hcz75_6
                              try clear hcz75_7
                              try clear hcz75_8
                              try clear hcz75_9
                              try clear hcz78_0
                              try clear hcz78_1
                              try clear hcz78_2
                              try clear hcz78_3
                              try clear hcz78_4
                              try clear hcz78_5
                              try clear hcz78_6
                              try clear hcz78_7
                              try clear hcz78_8
                              try clear hcz78_9
                              try clear hfz17_0
                              try clear hfz17_1
                              try clear hfz17_2
                              try clear hfz17_3
                              try clear hfz17_4
                              try clear hfz17_5
                              try clear hfz17_6
                              try clear hfz17_7
                              try clear hfz17_8
                              try clear hfz17_9
                              try clear hfz32_0
                              try clear hfz32_1
                              try clear hfz32_2
                              try clear hfz32_3
                              try clear hfz32_4
                              try clear hfz32_5
                              try clear hfz32_6
                              try clear hfz32_7
                              try clear hfz32_8
                              try clear hfz32_9
                              try clear hfz39_0
                              try clear hfz39_1
                              try clear hfz39_2
                              try clear hfz39_3
                              try clear hfz39_4
                              try clear hfz39_5
                              try clear hfz39_6
                              try clear hfz39_7
                              try clear hfz39_8
                              try clear hfz39_9
                              try clear hfz43_0
                              try clear hfz43_1
                              try clear hfz43_2
                              try clear hfz43_3
                              try clear hfz43_4
                              try clear hfz43_5
                              try clear hfz43_6
                              try clear hfz43_7
                              try clear hfz43_8
                              try clear hfz43_9
                              try clear hfz45_0
                              try clear hfz45_1
                              try clear hfz45_2
                              try clear hfz45_3
                              try clear hfz45_4
                              try clear hfz45_5
                              try clear hfz45_6
                              try clear hfz45_7
                              try clear hfz45_8
                              try clear hfz45_9
                              try clear hfz51_0
                              try clear hfz51_1
                              try clear hfz51_2
                              try clear hfz51_3
                              try clear hfz51_4
                              try clear hfz51_5
                              try clear hfz51_6
                              try clear hfz51_7
                              try clear hfz51_8
                              try clear hfz51_9
                              try clear hfz55_0
                              try clear hfz55_1
                              try clear hfz55_2
                              try clear hfz55_3
                              try clear hfz55_4
                              try clear hfz55_5
                              try clear hfz55_6
                              try clear hfz55_7
                              try clear hfz55_8
                              try clear hfz55_9
                              try clear hfz64_0
                              try clear hfz64_1
                              try clear hfz64_2
                              try clear hfz64_3
                              try clear hfz64_4
                              try clear hfz64_5
                              try clear hfz64_6
                              try clear hfz64_7
                              try clear hfz64_8
                              try clear hfz64_9
                              try clear hfz70_0
                              try clear hfz70_1
                              try clear hfz70_2
                              try clear hfz70_3
                              try clear hfz70_4
                              try clear hfz70_5
                              try clear hfz70_6
                              try clear hfz70_7
                              try clear hfz70_8
                              try clear hfz70_9
                              try clear hfz75_0
                              try clear hfz75_1
                              try clear hfz75_2
                              try clear hfz75_3
                              try clear hfz75_4
                              try clear hfz75_5
                              try clear hfz75_6
                              try clear hfz75_7
                              try clear hfz75_8
                              try clear hfz75_9
                              try clear hfz78_0
                              try clear hfz78_1
                              try clear hfz78_2
                              try clear hfz78_3
                              try clear hfz78_4
                              try clear hfz78_5
                              try clear hfz78_6
                              try clear hfz78_7
                              try clear hfz78_8
                              try clear hfz78_9
                              try clear hx131_0
                              try clear p1
                              try clear p13
                              try clear p131
                              try clear p2
                              try clear p6
                              try clear p64
                              try clear q1
                              try clear q13
                              try clear q131
                              obtain ⟨kq, x13_66, rfl, HA, HJ66, BK118, BK135, HI108, HB⟩ := hcut
                              cases kq with
                              | zero => exact absurd HA.out (by simp [laws_FnAccess.j5])
                              | succ kj66 =>
                                have H := HA.out
                                clear HA
                                simp only [laws_FnAccess.j5] at H
                                by_cases c79 : 0 ≤ x13_66
                                · rw [if_pos c79] at H
                                  have c79b0 := eq_true c79
                                  have c79b1 : decide (0 ≤ x13_66) = true := decide_eq_true c79
                                  clear c79
                                  obtain ⟨ji80, hji80⟩ : ∃ j_ : Int, (shl .i64 7 x13_66) = j_ := ⟨_, rfl⟩
                                  replace H : ((impl_MayAccess.f 0 0 (Go.bits .and .i64 t109 (ji80)) (wrap64 (1 + t112)) (wrap64 (1 + t115)) 0 0 0 0 ([] : List Int) (wrap64 (1 + t119)) (wrap64 (1 + t122)) t125).bind fun t141 => (if (t141 != x9_2) = true then (some false) else (laws_FnAccess.l0 kj66 (wrap64 (x4_1 + 1)) t105 t137 t138))) = some r := by first | (rw [hji80] at H; exact H) | (simp only [hji80] at H ⊢; exact H)
                                  have hji80_ : (IntKind.i64.wrap (7 * 2 ^ min x13_66.toNat 64)) = ji80 := hji80
                                  have hji80z : x13_66 ≤ 64 → (IntKind.i64.wrap (7 * 2 ^ x13_66.toNat)) = ji80 := shl_small hji80
                                  have hji80y : (wrap64 (7 * 2 ^ min x13_66.toNat 64)) = ji80 := (i64_w _).symm.trans hji80_
                                  have hji80x : x13_66 ≤ 64 → (wrap64 (7 * 2 ^ x13_66.toNat)) = ji80 := fun h_ => (i64_w _).symm.trans (hji80z h_)
                                  replace H := Option.bind_eq_some_iff.mp H
                                  obtain ⟨t141, A810, H⟩ := H
                                  replace H : (if (t141 != x9_2) = true then (some false) else (laws_FnAccess.l0 kj66 (wrap64 (x4_1 + 1)) t105 t137 t138)) = some r := H
                                  have A81 := Aside0.mk A810
                                  clear A810
                                  by_cases c82 : (t141 != x9_2) = true
                                  · rw [if_pos c82] at H
                                    have c82b0 : (t141 != x9_2) = true := c82
                                    (try (have c82b1 : decide (t141 = x9_2) = false := by simpa using c82))
                                    (try (have c82b2 : (t141 == x9_2) = false := by simpa using c82))
                                    (try (have c82b3 : ¬ (t141 = x9_2) := by simpa using c82))
                                    clear c82
                                    obtain rfl := Option.some.inj H
                                    have hnb83 := NB118_135.out
                                    have hnc83 := NB135_118.out
                                    have hnb84 := NB118_108.out
                                    have hnc84 := NB108_118.out
                                    have hcz85_0 : wc.cell? ⟨gb118, 0, none⟩ = some (.int .i64 0) := (blk_cell BK118.out 0).trans rfl
                                    have hcz85_1 : wc.cell? ⟨gb118, 1, none⟩ = some (.int .i64 0) := (blk_cell BK118.out 1).trans rfl
                                    have hcz85_2 : wc.cell? ⟨gb118, 2, none⟩ = some (.int .i64 t109) := (blk_cell BK118.out 2).trans rfl
                                    have hcz85_3 : wc.cell? ⟨gb118, 3, none⟩ = some (.int .i64 (wrap64 (1 + t112))) := (blk_cell BK118.out 3).trans rfl
                                    have hcz85_4 : wc.cell? ⟨gb118, 4, none⟩ = some (.int .i64 (wrap64 (1 + t115))) := (blk_cell BK118.out 4).trans rfl
                                    have hcz85_5 : wc.cell? ⟨gb118, 5, none⟩ = some (.int .i64 0) := (blk_cell BK118.out 5).trans rfl
                                    have hcz85_6 : wc.cell? ⟨gb118, 6, none⟩ = some (.int .i64 0) := (blk_cell BK118.out 6).trans rfl
                                    have hcz85_7 : wc.cell? ⟨gb118, 7, none⟩ = some (.int .i64 0) := (blk_cell BK118.out 7).trans rfl
                                    have hcz85_8 : wc.cell? ⟨gb118, 8, none⟩ = some (.int .i64 0) := (blk_cell BK118.out 8).trans rfl
                                    have hcz85_9 : wc.cell? ⟨gb118, 9, none⟩ = some (.slice none 0 0) := (blk_cell BK118.out 9).trans rfl
                                    have hfz85_0 := blk_frozen BK118.out 0
                                    have hfz85_1 := blk_frozen BK118.out 1
                                    have hfz85_2 := blk_frozen BK118.out 2
                                    have hfz85_3 := blk_frozen BK118.out 3
                                    have hfz85_4 := blk_frozen BK118.out 4
                                    have hfz85_5 := blk_frozen BK118.out 5
                                    have hfz85_6 := blk_frozen BK118.out 6
                                    have hfz85_7 := blk_frozen BK118.out 7
                                    have hfz85_8 := blk_frozen BK118.out 8
                                    have hfz85_9 := blk_frozen BK118.out 9
                                    try go_wp2_with (first | ((with_reducible refine gate_dst (N := 14) rfl ?_); refine box_event ?hg (N := 14) ?hd (cs := #[.int .i64 0, .int .i64 0, .int .i64 0, .int .i64 0, .int .i64 0, .int .i64 0, .int .i64 0, .int .i64 0, .int .i64 0, .slice none 0 0]) (t := 31) ?hr ?_; (case hd => rfl); (case hg => rfl); (case hr => first | (go_simp; done) | (go_simp; rfl)); intro gb140 hg w86 hbox hb; have n0_ := Aside0.mk (blk_below (g := gb118) (o := .cells #[.int .i64 0, .int .i64 0, .int .i64 t109, .int .i64 (wrap64 (1 + t112)), .int .i64 (wrap64 (1 + t115)), .int .i64 0, .int .i64 0, .int .i64 0, .int .i64 0, .slice none 0 0] 31 (0, 0)) (by (with_reducible repeat (first | refine blk_drewN ?_ _ | refine blk_drew ?_ | refine blk_alloc ?_ _)); exact BK118.out) hb); have n1_ := Aside0.mk (blk_below (g := gb135) (o := .cells #[.int .i64 0, .int .i64 0, .int .i64 (Go.bits .or .i64 t109 t136), .int .i64 (wrap64 (1 + t112)), .int .i64 (wrap64 (1 + t115)), .int .i64 0, .int .i64 0, .int .i64 0, .int .i64 0, .slice none 0 0] 31 (0, 0)) (by (with_reducible repeat (first | refine blk_drewN ?_ _ | refine blk_drew ?_ | refine blk_alloc ?_ _)); exact BK135.out) hb); have n2_ := Aside0.mk (IsS68.below (by repeat (first | (with_reducible first | exact HI108.out | apply IsS68.alloc | apply IsS68.drewN | apply IsS68.drew | apply IsS68.set_1 | apply IsS68.set_2 | refine IsS68.far ?_ NB108_118.out _ | refine IsS68.far ?_ NB108_135.out _) | exact HI108.out)) hb); have n3_ := Aside0.mk (below_step (by repeat (first | (with_reducible first | exact HB.out | apply below_alloc | apply pw_below_drewN | apply below_drew1 | refine below_set ?_ (IsS68.ge HI108.out) | refine below_set ?_ GE118.out | refine below_set ?_ GE135.out) | exact HB.out)) hb); have n4_ := Aside0.mk (hbox); have n5_ := Aside0.mk ((by rw [hg]; exact (below_size (by repeat (first | (with_reducible first | exact HB.out | apply below_alloc | apply pw_below_drewN | apply below_drew1 | refine below_set ?_ (IsS68.ge HI108.out) | refine below_set ?_ GE118.out | refine below_set ?_ GE135.out) | exact HB.out))) : w.heap.size ≤ gb140)); have n6_ := Aside0.mk ((by rw [hg]; exact (below_size (by repeat (first | (with_reducible first | exact HB.out | apply below_alloc | apply pw_below_drewN | apply below_drew1 | refine below_set ?_ (IsS68.ge HI108.out) | refine below_set ?_ GE118.out | refine below_set ?_ GE135.out) | exact HB.out))) : w.heap.size ≤ gb140)); have n7_ := Aside0.mk ((by rw [hg]; exact Nat.ne_of_lt (blk_lt (g := gb118) (o := .cells #[.int .i64 0, .int .i64 0, .int .i64 t109, .int .i64 (wrap64 (1 + t112)), .int .i64 (wrap64 (1 + t115)), .int .i64 0, .int .i64 0, .int .i64 0, .int .i64 0, .slice none 0 0] 31 (0, 0)) (by (with_reducible repeat (first | refine blk_drewN ?_ _ | refine blk_drew ?_ | refine blk_alloc ?_ _)); exact BK118.out)) : gb118 ≠ gb140)); have n8_ := Aside0.mk ((by rw [hg]; exact Nat.ne_of_gt (blk_lt (g := gb118) (o := .cells #[.int .i64 0, .int .i64 0, .int .i64 t109, .int .i64 (wrap64 (1 + t112)), .int .i64 (wrap64 (1 + t115)), .int .i64 0, .int .i64 0, .int .i64 0, .int .i64 0, .slice none 0 0] 31 (0, 0)) (by (with_reducible repeat (first | refine blk_drewN ?_ _ | refine blk_drew ?_ | refine blk_alloc ?_ _)); exact BK118.out)) : gb140 ≠ gb118)); have n9_ := Aside0.mk ((by rw [hg]; exact Nat.ne_of_lt (blk_lt (g := gb135) (o := .cells #[.int .i64 0, .int .i64 0, .int .i64 (Go.bits .or .i64 t109 t136), .int .i64 (wrap64 (1 + t112)), .int .i64 (wrap64 (1 + t115)), .int .i64 0, .int .i64 0, .int .i64 0, .int .i64 0, .slice none 0 0] 31 (0, 0)) (by (with_reducible repeat (first | refine blk_drewN ?_ _ | refine blk_drew ?_ | refine blk_alloc ?_ _)); exact BK135.out)) : gb135 ≠ gb140)); have n10_ := Aside0.mk ((by rw [hg]; exact Nat.ne_of_gt (blk_lt (g := gb135) (o := .cells #[.int .i64 0, .int .i64 0, .int .i64 (Go.bits .or .i64 t109 t136), .int .i64 (wrap64 (1 + t112)), .int .i64 (wrap64 (1 + t115)), .int .i64 0, .int .i64 0, .int .i64 0, .int .i64 0, .slice none 0 0] 31 (0, 0)) (by (with_reducible repeat (first | refine blk_drewN ?_ _ | refine blk_drew ?_ | refine blk_alloc ?_ _)); exact BK135.out)) : gb140 ≠ gb135)); have n11_ := Aside0.mk ((by rw [hg]; exact Nat.ne_of_lt (IsS68.lt (show IsS68 w _ g108 t105 t137 t138 from by repeat (first | (with_reducible first | exact HI108.out | apply IsS68.alloc | apply IsS68.drewN | apply IsS68.drew | apply IsS68.set_1 | apply IsS68.set_2 | refine IsS68.far ?_ NB108_118.out _ | refine IsS68.far ?_ NB108_135.out _) | exact HI108.out))) : g108 ≠ gb140)); have n12_ := Aside0.mk ((by rw [hg]; exact Nat.ne_of_gt (IsS68.lt (show IsS68 w _ g108 t105 t137 t138 from by repeat (first | (with_reducible first | exact HI108.out | apply IsS68.alloc | apply IsS68.drewN | apply IsS68.drew | apply IsS68.set_1 | apply IsS68.set_2 | refine IsS68.far ?_ NB108_118.out _ | refine IsS68.far ?_ NB108_135.out _) | exact HI108.out))) : gb140 ≠ g108)); clear BK118; clear BK135; clear HI108; clear HB; have BK118 := n0_; have BK135 := n1_; have HI108 := n2_; have HB := n3_; have BK140 := n4_; have GW140 := n5_; have GE140 := n6_; have NB118_140 := n7_; have NB140_118 := n8_; have NB135_140 := n9_; have NB140_135 := n10_; have NB108_140 := n11_; have NB140_108 := n12_; clear n0_ n1_ n2_ n3_ n4_ n5_ n6_ n7_ n8_ n9_ n10_ n11_ n12_; clear hb hbox hg; have hnb87 := NB140_118.out; have hnc87 := NB118_140.out; have hnb88 := NB140_135.out; have hnc88 := NB135_140.out; have hnb89 := NB140_108.out; have hnc89 := NB108_140.out; have hcz90_0 : w86.cell? ⟨gb140, 0, none⟩ = some (.int .i64 0) := (blk_cell BK140.out 0).trans rfl; have hcz90_1 : w86.cell? ⟨gb140, 1, none⟩ = some (.int .i64 0) := (blk_cell BK140.out 1).trans rfl; have hcz90_2 : w86.cell? ⟨gb140, 2, none⟩ = some (.int .i64 0) := (blk_cell BK140.out 2).trans rfl; have hcz90_3 : w86.cell? ⟨gb140, 3, none⟩ = some (.int .i64 0) := (blk_cell BK140.out 3).trans rfl; have hcz90_4 : w86.cell? ⟨gb140, 4, none⟩ = some (.int .i64 0) := (blk_cell BK140.out 4).trans rfl; have hcz90_5 : w86.cell? ⟨gb140, 5, none⟩ = some (.int .i64 0) := (blk_cell BK140.out 5).trans rfl; have hcz90_6 : w86.cell? ⟨gb140, 6, none⟩ = some (.int .i64 0) := (blk_cell BK140.out 6).trans rfl; have hcz90_7 : w86.cell? ⟨gb140, 7, none⟩ = some (.int .i64 0) := (blk_cell BK140.out 7).trans rfl; have hcz90_8 : w86.cell? ⟨gb140, 8, none⟩ = some (.int .i64 0) := (blk_cell BK140.out 8).trans rfl; have hcz90_9 : w86.cell? ⟨gb140, 9, none⟩ = some (.slice none 0 0) := (blk_cell BK140.out 9).trans rfl; have hfz90_0 := blk_frozen BK140.out 0; have hfz90_1 := blk_frozen BK140.out 1; have hfz90_2 := blk_frozen BK140.out 2; have hfz90_3 := blk_frozen BK140.out 3; have hfz90_4 := blk_frozen BK140.out 4; have hfz90_5 := blk_frozen BK140.out 5; have hfz90_6 := blk_frozen BK140.out 6; have hfz90_7 := blk_frozen BK140.out 7; have hfz90_8 := blk_frozen BK140.out 8; have hfz90_9 := blk_frozen BK140.out 9))
                                    have n0_ : Aside0 (((((((((((w86.setCell ⟨gb140, 0, none⟩ (.int .i64 0)).setCell ⟨gb140, 1, none⟩ (.int .i64 0)).setCell ⟨gb140, 2, none⟩ (.int .i64 t109)).setCell ⟨gb140, 3, none⟩ (.int .i64 (wrap64 (1 + t112)))).setCell ⟨gb140, 4, none⟩ (.int .i64 (wrap64 (1 + t115)))).setCell ⟨gb140, 5, none⟩ (.int .i64 0)).setCell ⟨gb140, 6, none⟩ (.int .i64 0)).setCell ⟨gb140, 7, none⟩ (.int .i64 0)).setCell ⟨gb140, 8, none⟩ (.int .i64 0)).setCell ⟨gb140, 9, none⟩ (.slice none 0 0)).heap[gb118]? = some (.cells #[.int .i64 0, .int .i64 0, .int .i64 t109, .int .i64 (wrap64 (1 + t112)), .int .i64 (wrap64 (1 + t115)), .int .i64 0, .int .i64 0, .int .i64 0, .int .i64 0, .slice none 0 0] 31 (0, 0))) := ⟨by (with_reducible repeat (first | refine blk_drewN ?_ _ | refine blk_drew ?_ | refine blk_alloc ?_ _)); refine blk_far ?_ NB118_140.out _; (with_reducible repeat (first | refine blk_drewN ?_ _ | refine blk_drew ?_ | refine blk_alloc ?_ _)); refine blk_far ?_ NB118_140.out _; (with_reducible repeat (first | refine blk_drewN ?_ _ | refine blk_drew ?_ | refine blk_alloc ?_ _)); refine blk_far ?_ NB118_140.out _; (with_reducible repeat (first | refine blk_drewN ?_ _ | refine blk_drew ?_ | refine blk_alloc ?_ _)); refine blk_far ?_ NB118_140.out _; (with_reducible repeat (first | refine blk_drewN ?_ _ | refine blk_drew ?_ | refine blk_alloc ?_ _)); refine blk_far ?_ NB118_140.out _; (with_reducible repeat (first | refine blk_drewN ?_ _ | refine blk_drew ?_ | refine blk_alloc ?_ _)); refine blk_far ?_ NB118_140.out _; (with_reducible repeat (first | refine blk_drewN ?_ _ | refine blk_drew ?_ | refine blk_alloc ?_ _)); refine blk_far ?_ NB118_140.out _; (with_reducible repeat (first | refine blk_drewN ?_ _ | refine blk_drew ?_ | refine blk_alloc ?_ _)); refine blk_far ?_ NB118_140.out _; (with_reducible repeat (first | refine blk_drewN ?_ _ | refine blk_drew ?_ | refine blk_alloc ?_ _)); refine blk_far ?_ NB118_140.out _; (with_reducible repeat (first | refine blk_drewN ?_ _ | refine blk_drew ?_ | refine blk_alloc ?_ _)); refine blk_far ?_ NB118_140.out _; (with_reducible repeat (first | refine blk_drewN ?_ _ | refine blk_drew ?_ | refine blk_alloc ?_ _)); exact BK118.out⟩
                                    have n1_ : Aside0 (((((((((((w86.setCell ⟨gb140, 0, none⟩ (.int .i64 0)).setCell ⟨gb140, 1, none⟩ (.int .i64 0)).setCell ⟨gb140, 2, none⟩ (.int .i64 t109)).setCell ⟨gb140, 3, none⟩ (.int .i64 (wrap64 (1 + t112)))).setCell ⟨gb140, 4, none⟩ (.int .i64 (wrap64 (1 + t115)))).setCell ⟨gb140, 5, none⟩ (.int .i64 0)).setCell ⟨gb140, 6, none⟩ (.int .i64 0)).setCell ⟨gb140, 7, none⟩ (.int .i64 0)).setCell ⟨gb140, 8, none⟩ (.int .i64 0)).setCell ⟨gb140, 9, none⟩ (.slice none 0 0)).heap[gb135]? = some (.cells #[.int .i64 0, .int .i64 0, .int .i64 (Go.bits .or .i64 t109 t136), .int .i64 (wrap64 (1 + t112)), .int .i64 (wrap64 (1 + t115)), .int .i64 0, .int .i64 0, .int .i64 0, .int .i64 0, .slice none 0 0] 31 (0, 0))) := ⟨by (with_reducible repeat (first | refine blk_drewN ?_ _ | refine blk_drew ?_ | refine blk_alloc ?_ _)); refine blk_far ?_ NB135_140.out _; (with_reducible repeat (first | refine blk_drewN ?_ _ | refine blk_drew ?_ | refine blk_alloc ?_ _)); refine blk_far ?_ NB135_140.out _; (with_reducible repeat (first | refine blk_drewN ?_ _ | refine blk_drew ?_ | refine blk_alloc ?_ _)); refine blk_far ?_ NB135_140.out _; (with_reducible repeat (first | refine blk_drewN ?_ _ | refine blk_drew ?_ | refine blk_alloc ?_ _)); refine blk_far ?_ NB135_140.out _; (with_reducible repeat (first | refine blk_drewN ?_ _ | refine blk_drew ?_ | refine blk_alloc ?_ _)); refine blk_far ?_ NB135_140.out _; (with_reducible repeat (first | refine blk_drewN ?_ _ | refine blk_drew ?_ | refine blk_alloc ?_ _)); refine blk_far ?_ NB135_140.out _; (with_reducible repeat (first | refine blk_drewN ?_ _ | refine blk_drew ?_ | refine blk_alloc ?_ _)); refine blk_far ?_ NB135_140.out _; (with_reducible repeat (first | refine blk_drewN ?_ _ | refine blk_drew ?_ | refine blk_alloc ?_ _)); refine blk_far ?_ NB135_140.out _; (with_reducible repeat (first | refine blk_drewN ?_ _ | refine blk_drew ?_ | refine blk_alloc ?_ _)); refine blk_far ?_ NB135_140.out _; (with_reducible repeat (first | refine blk_drewN ?_ _ | refine blk_drew ?_ | refine blk_alloc ?_ _)); refine blk_far ?_ NB135_140.out _; (with_reducible repeat (first | refine blk_drewN ?_ _ | refine blk_drew ?_ | refine blk_alloc ?_ _)); exact BK135.out⟩
                                    have n2_ : Aside0 (((((((((((w86.setCell ⟨gb140, 0, none⟩ (.int .i64 0)).setCell ⟨gb140, 1, none⟩ (.int .i64 0)).setCell ⟨gb140, 2, none⟩ (.int .i64 t109)).setCell ⟨gb140, 3, none⟩ (.int .i64 (wrap64 (1 + t112)))).setCell ⟨gb140, 4, none⟩ (.int .i64 (wrap64 (1 + t115)))).setCell ⟨gb140, 5, none⟩ (.int .i64 0)).setCell ⟨gb140, 6, none⟩ (.int .i64 0)).setCell ⟨gb140, 7, none⟩ (.int .i64 0)).setCell ⟨gb140, 8, none⟩ (.int .i64 0)).setCell ⟨gb140, 9, none⟩ (.slice none 0 0)).heap[gb140]? = some (.cells #[.int .i64 0, .int .i64 0, .int .i64 t109, .int .i64 (wrap64 (1 + t112)), .int .i64 (wrap64 (1 + t115)), .int .i64 0, .int .i64 0, .int .i64 0, .int .i64 0, .slice none 0 0] 31 (0, 0))) := ⟨by (with_reducible repeat (first | refine blk_drewN ?_ _ | refine blk_drew ?_ | refine blk_alloc ?_ _)); refine blk_put (cs := #[.int .i64 0, .int .i64 0, .int .i64 t109, .int .i64 (wrap64 (1 + t112)), .int .i64 (wrap64 (1 + t115)), .int .i64 0, .int .i64 0, .int .i64 0, .int .i64 0, .slice none 0 0]) ?_ 9 _ rfl; (with_reducible repeat (first | refine blk_drewN ?_ _ | refine blk_drew ?_ | refine blk_alloc ?_ _)); refine blk_put (cs := #[.int .i64 0, .int .i64 0, .int .i64 t109, .int .i64 (wrap64 (1 + t112)), .int .i64 (wrap64 (1 + t115)), .int .i64 0, .int .i64 0, .int .i64 0, .int .i64 0, .slice none 0 0]) ?_ 8 _ rfl; (with_reducible repeat (first | refine blk_drewN ?_ _ | refine blk_drew ?_ | refine blk_alloc ?_ _)); refine blk_put (cs := #[.int .i64 0, .int .i64 0, .int .i64 t109, .int .i64 (wrap64 (1 + t112)), .int .i64 (wrap64 (1 + t115)), .int .i64 0, .int .i64 0, .int .i64 0, .int .i64 0, .slice none 0 0]) ?_ 7 _ rfl; (with_reducible repeat (first | refine blk_drewN ?_ _ | refine blk_drew ?_ | refine blk_alloc ?_ _)); refine blk_put (cs := #[.int .i64 0, .int .i64 0, .int .i64 t109, .int .i64 (wrap64 (1 + t112)), .int .i64 (wrap64 (1 + t115)), .int .i64 0, .int .i64 0, .int .i64 0, .int .i64 0, .slice none 0 0]) ?_ 6 _ rfl; (with_reducible repeat (first | refine blk_drewN ?_ _ | refine blk_drew ?_ | refine blk_alloc ?_ _)); refine blk_put (cs := #[.int .i64 0, .int .i64 0, .int .i64 t109, .int .i64 (wrap64 (1 + t112)), .int .i64 (wrap64 (1 + t115)), .int .i64 0, .int .i64 0, .int .i64 0, .int .i64 0, .slice none 0 0]) ?_ 5 _ rfl; (with_reducible repeat (first | refine blk_drewN ?_ _ | refine blk_drew ?_ | refine blk_alloc ?_ _)); refine blk_put (cs := #[.int .i64 0, .int .i64 0, .int .i64 t109, .int .i64 (wrap64 (1 + t112)), .int .i64 0, .int .i64 0, .int .i64 0, .int .i64 0, .int .i64 0, .slice none 0 0]) ?_ 4 _ rfl; (with_reducible repeat (first | refine blk_drewN ?_ _ | refine blk_drew ?_ | refine blk_alloc ?_ _)); refine blk_put (cs := #[.int .i64 0, .int .i64 0, .int .i64 t109, .int .i64 0, .int .i64 0, .int .i64 0, .int .i64 0, .int .i64 0, .int .i64 0, .slice none 0 0]) ?_ 3 _ rfl; (with_reducible repeat (first | refine blk_drewN ?_ _ | refine blk_drew ?_ | refine blk_alloc ?_ _)); refine blk_put (cs := #[.int .i64 0, .int .i64 0, .int .i64 0, .int .i64 0, .int .i64 0, .int .i64 0, .int .i64 0, .int .i64 0, .int .i64 0, .slice none 0 0]) ?_ 2 _ rfl; (with_reducible repeat (first | refine blk_drewN ?_ _ | refine blk_drew ?_ | refine blk_alloc ?_ _)); refine blk_put (cs := #[.int .i64 0, .int .i64 0, .int .i64 0, .int .i64 0, .int .i64 0, .int .i64 0, .int .i64 0, .int .i64 0, .int .i64 0, .slice none 0 0]) ?_ 1 _ rfl; (with_reducible repeat (first | refine blk_drewN ?_ _ | refine blk_drew ?_ | refine blk_alloc ?_ _)); refine blk_put (cs := #[.int .i64 0, .int .i64 0, .int .i64 0, .int .i64 0, .int .i64 0, .int .i64 0, .int .i64 0, .int .i64 0, .int .i64 0, .slice none 0 0]) ?_ 0 _ rfl; (with_reducible repeat (first | refine blk_drewN ?_ _ | refine blk_drew ?_ | refine blk_alloc ?_ _)); exact BK140.out⟩
                                    have n3_ : Aside0 (IsS68 w ((((((((((w86.setCell ⟨gb140, 0, none⟩ (.int .i64 0)).setCell ⟨gb140, 1, none⟩ (.int .i64 0)).setCell ⟨gb140, 2, none⟩ (.int .i64 t109)).setCell ⟨gb140, 3, none⟩ (.int .i64 (wrap64 (1 + t112)))).setCell ⟨gb140, 4, none⟩ (.int .i64 (wrap64 (1 + t115)))).setCell ⟨gb140, 5, none⟩ (.int .i64 0)).setCell ⟨gb140, 6, none⟩ (.int .i64 0)).setCell ⟨gb140, 7, none⟩ (.int .i64 0)).setCell ⟨gb140, 8, none⟩ (.int .i64 0)).setCell ⟨gb140, 9, none⟩ (.slice none 0 0)) g108 t105 t137 t138) := ⟨by repeat (first | (with_reducible first | exact HI108.out | apply IsS68.alloc | apply IsS68.drewN | apply IsS68.drew | apply IsS68.set_1 | apply IsS68.set_2 | refine IsS68.far ?_ NB108_118.out _ | refine IsS68.far ?_ NB108_135.out _ | refine IsS68.far ?_ NB108_140.out _) | exact HI108.out)⟩
                                    have n4_ : Aside0 (Below w.heap.size w ((((((((((w86.setCell ⟨gb140, 0, none⟩ (.int .i64 0)).setCell ⟨gb140, 1, none⟩ (.int .i64 0)).setCell ⟨gb140, 2, none⟩ (.int .i64 t109)).setCell ⟨gb140, 3, none⟩ (.int .i64 (wrap64 (1 + t112)))).setCell ⟨gb140, 4, none⟩ (.int .i64 (wrap64 (1 + t115)))).setCell ⟨gb140, 5, none⟩ (.int .i64 0)).setCell ⟨gb140, 6, none⟩ (.int .i64 0)).setCell ⟨gb140, 7, none⟩ (.int .i64 0)).setCell ⟨gb140, 8, none⟩ (.int .i64 0)).setCell ⟨gb140, 9, none⟩ (.slice none 0 0))) := ⟨by repeat (first | (with_reducible first | exact HB.out | apply below_alloc | apply pw_below_drewN | apply below_drew1 | refine below_set ?_ (IsS68.ge HI108.out) | refine below_set ?_ GE118.out | refine below_set ?_ GE135.out | refine below_set ?_ GE140.out) | exact HB.out)⟩
                                    (try clear BK118)
                                    (try clear BK135)
                                    (try clear BK140)
                                    (try clear HI108)
                                    (try clear HB)
                                    generalize ((((((((((w86.setCell ⟨gb140, 0, none⟩ (.int .i64 0)).setCell ⟨gb140, 1, none⟩ (.int .i64 0)).setCell ⟨gb140, 2, none⟩ (.int .i64 t109)).setCell ⟨gb140, 3, none⟩ (.int .i64 (wrap64 (1 + t112)))).setCell ⟨gb140, 4, none⟩ (.int .i64 (wrap64 (1 + t115)))).setCell ⟨gb140, 5, none⟩ (.int .i64 0)).setCell ⟨gb140, 6, none⟩ (.int .i64 0)).setCell ⟨gb140, 7, none⟩ (.int .i64 0)).setCell ⟨gb140, 8, none⟩ (.int .i64 0)).setCell ⟨gb140, 9, none⟩ (.slice none 0 0)) = w91 at n0_ n1_ n2_ n3_ n4_ ⊢
                                    have BK118 := n0_
                                    have BK135 := n1_
                                    have BK140 := n2_
                                    have HI108 := n3_
                                    have HB := n4_
                                    clear n0_ n1_ n2_ n3_ n4_
                                    have n0_ := Aside0.mk (blk_drew BK118.out)
                                    have n1_ := Aside0.mk (blk_drew BK135.out)
                                    have n2_ := Aside0.mk (blk_drew BK140.out)
                                    have n3_ := Aside0.mk (IsS68.drew HI108.out)
                                    have n4_ := Aside0.mk (below_drew1 HB.out)
                                    clear BK118
                                    clear BK135
                                    clear BK140
                                    clear HI108
                                    clear HB
                                    have BK118 := n0_
                                    have BK135 := n1_
                                    have BK140 := n2_
                                    have HI108 := n3_
                                    have HB := n4_
                                    clear n0_ n1_ n2_ n3_ n4_
                                    refine start_ (n := 7) (S := fun w' => w'.cell? ⟨gb140, 0, none⟩ = some (.int .i64 0) ∧ w'.cell? ⟨gb140, 1, none⟩ = some (.int .i64 0) ∧ w'.cell? ⟨gb140, 2, none⟩ = some (.int .i64 t109) ∧ w'.cell? ⟨gb140, 3, none⟩ = some (.int .i64 (wrap64 (1 + t112))) ∧ w'.cell? ⟨gb140, 4, none⟩ = some (.int .i64 (wrap64 (1 + t115))) ∧ w'.cell? ⟨gb140, 5, none⟩ = some (.int .i64 0) ∧ w'.cell? ⟨gb140, 6, none⟩ = some (.int .i64 0) ∧ w'.cell? ⟨gb140, 7, none⟩ = some (.int .i64 0) ∧ w'.cell? ⟨gb140, 8, none⟩ = some (.int .i64 0) ∧ w'.cell? ⟨gb140, 9, none⟩ = some (.slice none 0 0)) (ds := [6]) #[false, false, false, false, false, false, false] (by kernel_rfl) rfl rfl ⟨(blk_cell BK140.out 0).trans rfl, (blk_cell BK140.out 1).trans rfl, (blk_cell BK140.out 2).trans rfl, (blk_cell BK140.out 3).trans rfl, (blk_cell BK140.out 4).trans rfl, (blk_cell BK140.out 5).trans rfl, (blk_cell BK140.out 6).trans rfl, (blk_cell BK140.out 7).trans rfl, (blk_cell BK140.out 8).trans rfl, (blk_cell BK140.out 9).trans rfl⟩ (fun hHeld => ?_)
                                    generalize w91.drew = w92 at BK118 BK135 BK140 HI108 HB hHeld ⊢
                                    refine pure_ (i := 0) (N := some 100) (v := ?_) (a' := ?_) #[true, false, false, false, false, false, false] rfl rfl (by kernel_rfl) (fun _ _ _ h => h) (Or.inl ⟨by rfl, ?_⟩) ?_ ?_
                                    rotate_left
                                    · intro w'
                                      go_simp
                                      with_reducible rfl
                                    rotate_left
                                    · simp only [Act.put, List.setIfInBounds_toArray, List.set_cons_zero, List.set_cons_succ, i64_w, i32_w]
                                      rfl
                                    refine pure_ (i := 2) (N := some 102) (v := ?_) (a' := ?_) #[true, false, true, false, false, false, false] rfl rfl (by kernel_rfl) (fun _ _ _ h => h) (Or.inl ⟨by rfl, ?_⟩) ?_ ?_
                                    rotate_left
                                    · intro w'
                                      go_simp
                                      with_reducible rfl
                                    rotate_left
                                    · simp only [Act.put, List.setIfInBounds_toArray, List.set_cons_zero, List.set_cons_succ, i64_w, i32_w]
                                      rfl
                                    refine pure_ (i := 3) (N := some 103) (v := ?_) (a' := ?_) #[true, false, true, true, false, false, false] rfl rfl (by kernel_rfl) (fun _ _ _ h => h) (Or.inl ⟨by rfl, ?_⟩) ?_ ?_
                                    rotate_left
                                    · intro w'
                                      go_simp
                                      with_reducible rfl
                                    rotate_left
                                    · simp only [Act.put, List.setIfInBounds_toArray, List.set_cons_zero, List.set_cons_succ, i64_w, i32_w]
                                      rfl
                                    refine take_ (i := 1) (N := some 101) (v := ?_) (a' := ?_) #[true, true, true, true, false, false, false] rfl rfl (by kernel_rfl) (fun _ _ _ h => h) (Or.inl ⟨by rfl, ?_⟩) hHeld ?_ ?_
                                    rotate_left
                                    · rintro w' ⟨s0, s1, s2, s3, s4, s5, s6, s7, s8, s9⟩
                                      go_simp
                                      with_reducible rfl
                                    rotate_left
                                    · simp only [Act.put, List.setIfInBounds_toArray, List.set_cons_zero, List.set_cons_succ, i64_w, i32_w]
                                      rfl
                                    refine pure_ (i := 4) (N := some 104) (v := ?_) (a' := ?_) #[true, true, true, true, true, false, false] rfl rfl (by kernel_rfl) (fun _ _ _ h => h) (Or.inl ⟨by rfl, ?_⟩) ?_ ?_
                                    rotate_left
                                    · intro w'
                                      go_simp
                                      with_reducible rfl
                                    rotate_left
                                    · simp only [Act.put, List.setIfInBounds_toArray, List.set_cons_zero, List.set_cons_succ, i64_w, i32_w]
                                      rfl
                                    refine pure_ (i := 5) (N := some 105) (v := ?_) (a' := ?_) #[true, true, true, true, true, true, false] rfl rfl (by kernel_rfl) (fun _ _ _ h => h) (Or.inl ⟨by rfl, ?_⟩) ?_ ?_
                                    rotate_left
                                    · intro w'
                                      go_simp
                                      with_reducible rfl
                                    rotate_left
                                    · simp only [Act.put, List.setIfInBounds_toArray, List.set_cons_zero, List.set_cons_succ, i64_w, i32_w]
                                      rfl
                                    refine last_ (i := 6) (N := none) #[true, true, true, true, true, true, true] rfl rfl (by kernel_rfl) (by decide) (fun K hK => ?_)
                                    have hs93 : w92.cell? ⟨gb140, 2, none⟩ = some (.int .i64 t109) := (blk_cell BK140.out 2).trans rfl
                                    have hfs93 := blk_frozen BK140.out 2
                                    have hns93_0 := NB118_140.out
                                    have hns93_1 := NB135_140.out
                                    have hms93_0 := NB140_118.out
                                    have hms93_1 := NB140_135.out
                                    refine skip_ (w1 := ?_) (by rfl) rfl ?_ ?_
                                    rotate_left
                                    · go_simp
                                      rfl
                                    refine hK.out _ _ ?_
                                    clear hK K
                                    refine done_ (by kernel_rfl) ?_
                                    have hcz94_0 : w92.cell? ⟨gb140, 0, none⟩ = some (.int .i64 0) := (blk_cell BK140.out 0).trans rfl
                                    have hcz94_1 : w92.cell? ⟨gb140, 1, none⟩ = some (.int .i64 0) := (blk_cell BK140.out 1).trans rfl
                                    have hcz94_2 : w92.cell? ⟨gb140, 2, none⟩ = some (.int .i64 t109) := (blk_cell BK140.out 2).trans rfl
                                    have hcz94_3 : w92.cell? ⟨gb140, 3, none⟩ = some (.int .i64 (wrap64 (1 + t112))) := (blk_cell BK140.out 3).trans rfl
                                    have hcz94_4 : w92.cell? ⟨gb140, 4, none⟩ = some (.int .i64 (wrap64 (1 + t115))) := (blk_cell BK140.out 4).trans rfl
                                    have hcz94_5 : w92.cell? ⟨gb140, 5, none⟩ = some (.int .i64 0) := (blk_cell BK140.out 5).trans rfl
                                    have hcz94_6 : w92.cell? ⟨gb140, 6, none⟩ = some (.int .i64 0) := (blk_cell BK140.out 6).trans rfl
                                    have hcz94_7 : w92.cell? ⟨gb140, 7, none⟩ = some (.int .i64 0) := (blk_cell BK140.out 7).trans rfl
                                    have hcz94_8 : w92.cell? ⟨gb140, 8, none⟩ = some (.int .i64 0) := (blk_cell BK140.out 8).trans rfl
                                    have hcz94_9 : w92.cell? ⟨gb140, 9, none⟩ = some (.slice none 0 0) := (blk_cell BK140.out 9).trans rfl
                                    have hfz94_0 := blk_frozen BK140.out 0
                                    have hfz94_1 := blk_frozen BK140.out 1
                                    have hfz94_2 := blk_frozen BK140.out 2
                                    have hfz94_3 := blk_frozen BK140.out 3
                                    have hfz94_4 := blk_frozen BK140.out 4
                                    have hfz94_5 := blk_frozen BK140.out 5
                                    have hfz94_6 := blk_frozen BK140.out 6
                                    have hfz94_7 := blk_frozen BK140.out 7
                                    have hfz94_8 := blk_frozen BK140.out 8
                                    have hfz94_9 := blk_frozen BK140.out 9
                                    try go_wp2_with (first | ((with_reducible refine gate_callee (f := 21) rfl ?_); refine goesL_ (some 110) rfl rfl Try.func21 (by kernel_rfl) rfl #[.agg #[.int .i64 0, .int .i64 0, .int .i64 (Go.bits .and .i64 t109 (ji80)), .int .i64 (wrap64 (1 + t112)), .int .i64 (wrap64 (1 + t115)), .int .i64 0, .int .i64 0, .int .i64 0, .int .i64 0, .slice none 0 0], .int .i64 (wrap64 (1 + t119)), .int .i64 (wrap64 (1 + t122)), .int .i64 t125] rfl (by (try simp only [List.map_toArray, List.map_cons, List.map_nil]); first | done | (simp only [hji80]; rfl) | rfl | (simp only [List.length_drop, List.length_take]; rfl)) ?_; (refine (impl_MayAccess.calls 0 0 (Go.bits .and .i64 t109 (ji80)) (wrap64 (1 + t112)) (wrap64 (1 + t115)) 0 0 0 0 _ _ ([] : List Int) (wrap64 (1 + t119)) (wrap64 (1 + t122)) t125 t141 _ ?side1 ?side2 A81.out).mono ?_); (case side1 => exact Kd.C_nil _ _); (case side2 => exact Nat.le_refl _); rintro e w95 ⟨rfl, hb⟩; refine ⟨_, rfl, ?_⟩; have n0_ := Aside0.mk (blk_below (g := gb118) (o := .cells #[.int .i64 0, .int .i64 0, .int .i64 t109, .int .i64 (wrap64 (1 + t112)), .int .i64 (wrap64 (1 + t115)), .int .i64 0, .int .i64 0, .int .i64 0, .int .i64 0, .slice none 0 0] 31 (0, 0)) (by (with_reducible repeat (first | refine blk_drewN ?_ _ | refine blk_drew ?_ | refine blk_alloc ?_ _)); refine blk_far ?_ NB118_140.out _; (with_reducible repeat (first | refine blk_drewN ?_ _ | refine blk_drew ?_ | refine blk_alloc ?_ _)); exact BK118.out) hb); have n1_ := Aside0.mk (blk_below (g := gb135) (o := .cells #[.int .i64 0, .int .i64 0, .int .i64 (Go.bits .or .i64 t109 t136), .int .i64 (wrap64 (1 + t112)), .int .i64 (wrap64 (1 + t115)), .int .i64 0, .int .i64 0, .int .i64 0, .int .i64 0, .slice none 0 0] 31 (0, 0)) (by (with_reducible repeat (first | refine blk_drewN ?_ _ | refine blk_drew ?_ | refine blk_alloc ?_ _)); refine blk_far ?_ NB135_140.out _; (with_reducible repeat (first | refine blk_drewN ?_ _ | refine blk_drew ?_ | refine blk_alloc ?_ _)); exact BK135.out) hb); have n2_ := Aside0.mk (IsS68.below (show IsS68 w (w92.setCell ⟨gb140, 2, none⟩ (.int .i64 (Go.bits .and .i64 t109 (ji80)))) g108 t105 t137 t138 from by repeat (first | (with_reducible first | exact HI108.out | apply IsS68.alloc | apply IsS68.drewN | apply IsS68.drew | apply IsS68.set_1 | apply IsS68.set_2 | refine IsS68.far ?_ NB108_118.out _ | refine IsS68.far ?_ NB108_135.out _ | refine IsS68.far ?_ NB108_140.out _) | exact HI108.out)) hb); have n3_ := Aside0.mk (blk_below (g := gb140) (o := .cells #[.int .i64 0, .int .i64 0, .int .i64 (Go.bits .and .i64 t109 (ji80)), .int .i64 (wrap64 (1 + t112)), .int .i64 (wrap64 (1 + t115)), .int .i64 0, .int .i64 0, .int .i64 0, .int .i64 0, .slice none 0 0] 31 (0, 0)) (by (with_reducible repeat (first | refine blk_drewN ?_ _ | refine blk_drew ?_ | refine blk_alloc ?_ _)); refine blk_put (cs := #[.int .i64 0, .int .i64 0, .int .i64 t109, .int .i64 (wrap64 (1 + t112)), .int .i64 (wrap64 (1 + t115)), .int .i64 0, .int .i64 0, .int .i64 0, .int .i64 0, .slice none 0 0]) ?_ 2 _ rfl; (with_reducible repeat (first | refine blk_drewN ?_ _ | refine blk_drew ?_ | refine blk_alloc ?_ _)); exact BK140.out) hb); have n4_ := Aside0.mk (below_step (by repeat (first | (with_reducible first | exact HB.out | apply below_alloc | apply pw_below_drewN | apply below_drew1 | refine below_set ?_ (IsS68.ge HI108.out) | refine below_set ?_ GE118.out | refine below_set ?_ GE135.out | refine below_set ?_ GE140.out) | exact HB.out)) hb); clear BK118; clear BK135; clear HI108; clear BK140; clear HB; have BK118 := n0_; have BK135 := n1_; have HI108 := n2_; have BK140 := n3_; have HB := n4_; clear n0_ n1_ n2_ n3_ n4_; (try clear hb); (try clear hb2); (try clear hk); (try clear hi)))
                                    go_ret
                                    exact ⟨by first | rfl | (simp [errW_none, errW_some] <;> rfl) | (simp only [← hji80]; first | rfl | (simp [errW_none, errW_some] <;> rfl)) | (simp [*, errW_none, errW_some] <;> rfl), by repeat (first | (with_reducible first | exact HB.out | apply below_alloc | apply pw_below_drewN | apply below_drew1 | refine below_set ?_ (IsS68.ge HI108.out) | refine below_set ?_ GE118.out | refine below_set ?_ GE135.out | refine below_set ?_ GE140.out) | exact HB.out)⟩
                                  · rw [if_neg c82] at H
                                    have c82b0 : (t141 != x9_2) = false := by simpa using c82
                                    (try (have c82b1 : decide (t141 = x9_2) = true := by simpa using c82))
                                    (try (have c82b2 : (t141 == x9_2) = true := by simpa using c82))
                                    clear c82
                                    have H' := Aside0.mk H
                                    clear H
                                    have hnb96 := NB118_135.out
                                    have hnc96 := NB135_118.out
                                    have hnb97 := NB118_108.out
                                    have hnc97 := NB108_118.out
                                    have hcz98_0 : wc.cell? ⟨gb118, 0, none⟩ = some (.int .i64 0) := (blk_cell BK118.out 0).trans rfl
                                    have hcz98_1 : wc.cell? ⟨gb118, 1, none⟩ = some (.int .i64 0) := (blk_cell BK118.out 1).trans rfl
                                    have hcz98_2 : wc.cell? ⟨gb118, 2, none⟩ = some (.int .i64 t109) := (blk_cell BK118.out 2).trans rfl
                                    have hcz98_3 : wc.cell? ⟨gb118, 3, none⟩ = some (.int .i64 (wrap64 (1 + t112))) := (blk_cell BK118.out 3).trans rfl
                                    have hcz98_4 : wc.cell? ⟨gb118, 4, none⟩ = some (.int .i64 (wrap64 (1 + t115))) := (blk_cell BK118.out 4).trans rfl
                                    have hcz98_5 : wc.cell? ⟨gb118, 5, none⟩ = some (.int .i64 0) := (blk_cell BK118.out 5).trans rfl
                                    have hcz98_6 : wc.cell? ⟨gb118, 6, none⟩ = some (.int .i64 0) := (blk_cell BK118.out 6).trans rfl
                                    have hcz98_7 : wc.cell? ⟨gb118, 7, none⟩ = some (.int .i64 0) := (blk_cell BK118.out 7).trans rfl
                                    have hcz98_8 : wc.cell? ⟨gb118, 8, none⟩ = some (.int .i64 0) := (blk_cell BK118.out 8).trans rfl
                                    have hcz98_9 : wc.cell? ⟨gb118, 9, none⟩ = some (.slice none 0 0) := (blk_cell BK118.out 9).trans rfl
                                    have hfz98_0 := blk_frozen BK118.out 0
                                    have hfz98_1 := blk_frozen BK118.out 1
                                    have hfz98_2 := blk_frozen BK118.out 2
                                    have hfz98_3 := blk_frozen BK118.out 3
                                    have hfz98_4 := blk_frozen BK118.out 4
                                    have hfz98_5 := blk_frozen BK118.out 5
                                    have hfz98_6 := blk_frozen BK118.out 6
                                    have hfz98_7 := blk_frozen BK118.out 7
                                    have hfz98_8 := blk_frozen BK118.out 8
                                    have hfz98_9 := blk_frozen BK118.out 9
                                    try go_wp2_with (first | ((with_reducible refine gate_dst (N := 14) rfl ?_); refine box_event ?hg (N := 14) ?hd (cs := #[.int .i64 0, .int .i64 0, .int .i64 0, .int .i64 0, .int .i64 0, .int .i64 0, .int .i64 0, .int .i64 0, .int .i64 0, .slice none 0 0]) (t := 31) ?hr ?_; (case hd => rfl); (case hg => rfl); (case hr => first | (go_simp; done) | (go_simp; rfl)); intro gb140 hg w99 hbox hb; have n0_ := Aside0.mk (blk_below (g := gb118) (o := .cells #[.int .i64 0, .int .i64 0, .int .i64 t109, .int .i64 (wrap64 (1 + t112)), .int .i64 (wrap64 (1 + t115)), .int .i64 0, .int .i64 0, .int .i64 0, .int .i64 0, .slice none 0 0] 31 (0, 0)) (by (with_reducible repeat (first | refine blk_drewN ?_ _ | refine blk_drew ?_ | refine blk_alloc ?_ _)); exact BK118.out) hb); have n1_ := Aside0.mk (blk_below (g := gb135) (o := .cells #[.int .i64 0, .int .i64 0, .int .i64 (Go.bits .or .i64 t109 t136), .int .i64 (wrap64 (1 + t112)), .int .i64 (wrap64 (1 + t115)), .int .i64 0, .int .i64 0, .int .i64 0, .int .i64 0, .slice none 0 0] 31 (0, 0)) (by (with_reducible repeat (first | refine blk_drewN ?_ _ | refine blk_drew ?_ | refine blk_alloc ?_ _)); exact BK135.out) hb); have n2_ := Aside0.mk (IsS68.below (by repeat (first | (with_reducible first | exact HI108.out | apply IsS68.alloc | apply IsS68.drewN | apply IsS68.drew | apply IsS68.set_1 | apply IsS68.set_2 | refine IsS68.far ?_ NB108_118.out _ | refine IsS68.far ?_ NB108_135.out _) | exact HI108.out)) hb); have n3_ := Aside0.mk (below_step (by repeat (first | (with_reducible first | exact HB.out | apply below_alloc | apply pw_below_drewN | apply below_drew1 | refine below_set ?_ (IsS68.ge HI108.out) | refine below_set ?_ GE118.out | refine below_set ?_ GE135.out) | exact HB.out)) hb); have n4_ := Aside0.mk (hbox); have n5_ := Aside0.mk ((by rw [hg]; exact (below_size (by repeat (first | (with_reducible first | exact HB.out | apply below_alloc | apply pw_below_drewN | apply below_drew1 | refine below_set ?_ (IsS68.ge HI108.out) | refine below_set ?_ GE118.out | refine below_set ?_ GE135.out) | exact HB.out))) : w.heap.size ≤ gb140)); have n6_ := Aside0.mk ((by rw [hg]; exact (below_size (by repeat (first | (with_reducible first | exact HB.out | apply below_alloc | apply pw_below_drewN | apply below_drew1 | refine below_set ?_ (IsS68.ge HI108.out) | refine below_set ?_ GE118.out | refine below_set ?_ GE135.out) | exact HB.out))) : w.heap.size ≤ gb140)); have n7_ := Aside0.mk ((by rw [hg]; exact Nat.ne_of_lt (blk_lt (g := gb118) (o := .cells #[.int .i64 0, .int .i64 0, .int .i64 t109, .int .i64 (wrap64 (1 + t112)), .int .i64 (wrap64 (1 + t115)), .int .i64 0, .int .i64 0, .int .i64 0, .int .i64 0, .slice none 0 0] 31 (0, 0)) (by (with_reducible repeat (first | refine blk_drewN ?_ _ | refine blk_drew ?_ | refine blk_alloc ?_ _)); exact BK118.out)) : gb118 ≠ gb140)); have n8_ := Aside0.mk ((by rw [hg]; exact Nat.ne_of_gt (blk_lt (g := gb118) (o := .cells #[.int .i64 0, .int .i64 0, .int .i64 t109, .int .i64 (wrap64 (1 + t112)), .int .i64 (wrap64 (1 + t115)), .int .i64 0, .int .i64 0, .int .i64 0, .int .i64 0, .slice none 0 0] 31 (0, 0)) (by (with_reducible repeat (first | refine blk_drewN ?_ _ | refine blk_drew ?_ | refine blk_alloc ?_ _)); exact BK118.out)) : gb140 ≠ gb118)); have n9_ := Aside0.mk ((by rw [hg]; exact Nat.ne_of_lt (blk_lt (g := gb135) (o := .cells #[.int .i64 0, .int .i64 0, .int .i64 (Go.bits .or .i64 t109 t136), .int .i64 (wrap64 (1 + t112)), .int .i64 (wrap64 (1 + t115)), .int .i64 0, .int .i64 0, .int .i64 0, .int .i64 0, .slice none 0 0] 31 (0, 0)) (by (with_reducible repeat (first | refine blk_drewN ?_ _ | refine blk_drew ?_ | refine blk_alloc ?_ _)); exact BK135.out)) : gb135 ≠ gb140)); have n10_ := Aside0.mk ((by rw [hg]; exact Nat.ne_of_gt (blk_lt (g := gb135) (o := .cells #[.int .i64 0, .int .i64 0, .int .i64 (Go.bits .or .i64 t109 t136), .int .i64 (wrap64 (1 + t112)), .int .i64 (wrap64 (1 + t115)), .int .i64 0, .int .i64 0, .int .i64 0, .int .i64 0, .slice none 0 0] 31 (0, 0)) (by (with_reducible repeat (first | refine blk_drewN ?_ _ | refine blk_drew ?_ | refine blk_alloc ?_ _)); exact BK135.out)) : gb140 ≠ gb135)); have n11_ := Aside0.mk ((by rw [hg]; exact Nat.ne_of_lt (IsS68.lt (show IsS68 w _ g108 t105 t137 t138 from by repeat (first | (with_reducible first | exact HI108.out | apply IsS68.alloc | apply IsS68.drewN | apply IsS68.drew | apply IsS68.set_1 | apply IsS68.set_2 | refine IsS68.far ?_ NB108_118.out _ | refine IsS68.far ?_ NB108_135.out _) | exact HI108.out))) : g108 ≠ gb140)); have n12_ := Aside0.mk ((by rw [hg]; exact Nat.ne_of_gt (IsS68.lt (show IsS68 w _ g108 t105 t137 t138 from by repeat (first | (with_reducible first | exact HI108.out | apply IsS68.alloc | apply IsS68.drewN | apply IsS68.drew | apply IsS68.set_1 | apply IsS68.set_2 | refine IsS68.far ?_ NB108_118.out _ | refine IsS68.far ?_ NB108_135.out _) | exact HI108.out))) : gb140 ≠ g108)); clear BK118; clear BK135; clear HI108; clear HB; have BK118 := n0_; have BK135 := n1_; have HI108 := n2_; have HB := n3_; have BK140 := n4_; have GW140 := n5_; have GE140 := n6_; have NB118_140 := n7_; have NB140_118 := n8_; have NB135_140 := n9_; have NB140_135 := n10_; have NB108_140 := n11_; have NB140_108 := n12_; clear n0_ n1_ n2_ n3_ n4_ n5_ n6_ n7_ n8_ n9_ n10_ n11_ n12_; clear hb hbox hg; have hnb100 := NB140_118.out; have hnc100 := NB118_140.out; have hnb101 := NB140_135.out; have hnc101 := NB135_140.out; have hnb102 := NB140_108.out; have hnc102 := NB108_140.out; have hcz103_0 : w99.cell? ⟨gb140, 0, none⟩ = some (.int .i64 0) := (blk_cell BK140.out 0).trans rfl; have hcz103_1 : w99.cell? ⟨gb140, 1, none⟩ = some (.int .i64 0) := (blk_cell BK140.out 1).trans rfl; have hcz103_2 : w99.cell? ⟨gb140, 2, none⟩ = some (.int .i64 0) := (blk_cell BK140.out 2).trans rfl; have hcz103_3 : w99.cell? ⟨gb140, 3, none⟩ = some (.int .i64 0) := (blk_cell BK140.out 3).trans rfl; have hcz103_4 : w99.cell? ⟨gb140, 4, none⟩ = some (.int .i64 0) := (blk_cell BK140.out 4).trans rfl; have hcz103_5 : w99.cell? ⟨gb140, 5, none⟩ = some (.int .i64 0) := (blk_cell BK140.out 5).trans rfl; have hcz103_6 : w99.cell? ⟨gb140, 6, none⟩ = some (.int .i64 0) := (blk_cell BK140.out 6).trans rfl; have hcz103_7 : w99.cell? ⟨gb140, 7, none⟩ = some (.int .i64 0) := (blk_cell BK140.out 7).trans rfl; have hcz103_8 : w99.cell? ⟨gb140, 8, none⟩ = some (.int .i64 0) := (blk_cell BK140.out 8).trans rfl; have hcz103_9 : w99.cell? ⟨gb140, 9, none⟩ = some (.slice none 0 0) := (blk_cell BK140.out 9).trans rfl; have hfz103_0 := blk_frozen BK140.out 0; have hfz103_1 := blk_frozen BK140.out 1; have hfz103_2 := blk_frozen BK140.out 2; have hfz103_3 := blk_frozen BK140.out 3; have hfz103_4 := blk_frozen BK140.out 4; have hfz103_5 := blk_frozen BK140.out 5; have hfz103_6 := blk_frozen BK140.out 6; have hfz103_7 := blk_frozen BK140.out 7; have hfz103_8 := blk_frozen BK140.out 8; have hfz103_9 := blk_frozen BK140.out 9))
                                    have n0_ : Aside0 (((((((((((w99.setCell ⟨gb140, 0, none⟩ (.int .i64 0)).setCell ⟨gb140, 1, none⟩ (.int .i64 0)).setCell ⟨gb140, 2, none⟩ (.int .i64 t109)).setCell ⟨gb140, 3, none⟩ (.int .i64 (wrap64 (1 + t112)))).setCell ⟨gb140, 4, none⟩ (.int .i64 (wrap64 (1 + t115)))).setCell ⟨gb140, 5, none⟩ (.int .i64 0)).setCell ⟨gb140, 6, none⟩ (.int .i64 0)).setCell ⟨gb140, 7, none⟩ (.int .i64 0)).setCell ⟨gb140, 8, none⟩ (.int .i64 0)).setCell ⟨gb140, 9, none⟩ (.slice none 0 0)).heap[gb118]? = some (.cells #[.int .i64 0, .int .i64 0, .int .i64 t109, .int .i64 (wrap64 (1 + t112)), .int .i64 (wrap64 (1 + t115)), .int .i64 0, .int .i64 0, .int .i64 0, .int .i64 0, .slice none 0 0] 31 (0, 0))) := ⟨by (with_reducible repeat (first | refine blk_drewN ?_ _ | refine blk_drew ?_ | refine blk_alloc ?_ _)); refine blk_far ?_ NB118_140.out _; (with_reducible repeat (first | refine blk_drewN ?_ _ | refine blk_drew ?_ | refine blk_alloc ?_ _)); refine blk_far ?_ NB118_140.out _; (with_reducible repeat (first | refine blk_drewN ?_ _ | refine blk_drew ?_ | refine blk_alloc ?_ _)); refine blk_far ?_ NB118_140.out _; (with_reducible repeat (first | refine blk_drewN ?_ _ | refine blk_drew ?_ | refine blk_alloc ?_ _)); refine blk_far ?_ NB118_140.out _; (with_reducible repeat (first | refine blk_drewN ?_ _ | refine blk_drew ?_ | refine blk_alloc ?_ _)); refine blk_far ?_ NB118_140.out _; (with_reducible repeat (first | refine blk_drewN ?_ _ | refine blk_drew ?_ | refine blk_alloc ?_ _)); refine blk_far ?_ NB118_140.out _; (with_reducible repeat (first | refine blk_drewN ?_ _ | refine blk_drew ?_ | refine blk_alloc ?_ _)); refine blk_far ?_ NB118_140.out _; (with_reducible repeat (first | refine blk_drewN ?_ _ | refine blk_drew ?_ | refine blk_alloc ?_ _)); refine blk_far ?_ NB118_140.out _; (with_reducible repeat (first | refine blk_drewN ?_ _ | refine blk_drew ?_ | refine blk_alloc ?_ _)); refine blk_far ?_ NB118_140.out _; (with_reducible repeat (first | refine blk_drewN ?_ _ | refine blk_drew ?_ | refine blk_alloc ?_ _)); refine blk_far ?_ NB118_140.out _; (with_reducible repeat (first | refine blk_drewN ?_ _ | refine blk_drew ?_ | refine blk_alloc ?_ _)); exact BK118.out⟩
                                    have n1_ : Aside0 (((((((((((w99.setCell ⟨gb140, 0, none⟩ (.int .i64 0)).setCell ⟨gb140, 1, none⟩ (.int .i64 0)).setCell ⟨gb140, 2, none⟩ (.int .i64 t109)).setCell ⟨gb140, 3, none⟩ (.int .i64 (wrap64 (1 + t112)))).setCell ⟨gb140, 4, none⟩ (.int .i64 (wrap64 (1 + t115)))).setCell ⟨gb140, 5, none⟩ (.int .i64 0)).setCell ⟨gb140, 6, none⟩ (.int .i64 0)).setCell ⟨gb140, 7, none⟩ (.int .i64 0)).setCell ⟨gb140, 8, none⟩ (.int .i64 0)).setCell ⟨gb140, 9, none⟩ (.slice none 0 0)).heap[gb135]? = some (.cells #[.int .i64 0, .int .i64 0, .int .i64 (Go.bits .or .i64 t109 t136), .int .i64 (wrap64 (1 + t112)), .int .i64 (wrap64 (1 + t115)), .int .i64 0, .int .i64 0, .int .i64 0, .int .i64 0, .slice none 0 0] 31 (0, 0))) := ⟨by (with_reducible repeat (first | refine blk_drewN ?_ _ | refine blk_drew ?_ | refine blk_alloc ?_ _)); refine blk_far ?_ NB135_140.out _; (with_reducible repeat (first | refine blk_drewN ?_ _ | refine blk_drew ?_ | refine blk_alloc ?_ _)); refine blk_far ?_ NB135_140.out _; (with_reducible repeat (first | refine blk_drewN ?_ _ | refine blk_drew ?_ | refine blk_alloc ?_ _)); refine blk_far ?_ NB135_140.out _; (with_reducible repeat (first | refine blk_drewN ?_ _ | refine blk_drew ?_ | refine blk_alloc ?_ _)); refine blk_far ?_ NB135_140.out _; (with_reducible repeat (first | refine blk_drewN ?_ _ | refine blk_drew ?_ | refine blk_alloc ?_ _)); refine blk_far ?_ NB135_140.out _; (with_reducible repeat (first | refine blk_drewN ?_ _ | refine blk_drew ?_ | refine blk_alloc ?_ _)); refine blk_far ?_ NB135_140.out _; (with_reducible repeat (first | refine blk_drewN ?_ _ | refine blk_drew ?_ | refine blk_alloc ?_ _)); refine blk_far ?_ NB135_140.out _; (with_reducible repeat (first | refine blk_drewN ?_ _ | refine blk_drew ?_ | refine blk_alloc ?_ _)); refine blk_far ?_ NB135_140.out _; (with_reducible repeat (first | refine blk_drewN ?_ _ | refine blk_drew ?_ | refine blk_alloc ?_ _)); refine blk_far ?_ NB135_140.out _; (with_reducible repeat (first | refine blk_drewN ?_ _ | refine blk_drew ?_ | refine blk_alloc ?_ _)); refine blk_far ?_ NB135_140.out _; (with_reducible repeat (first | refine blk_drewN ?_ _ | refine blk_drew ?_ | refine blk_alloc ?_ _)); exact BK135.out⟩
                                    have n2_ : Aside0 (((((((((((w99.setCell ⟨gb140, 0, none⟩ (.int .i64 0)).setCell ⟨gb140, 1, none⟩ (.int .i64 0)).setCell ⟨gb140, 2, none⟩ (.int .i64 t109)).setCell ⟨gb140, 3, none⟩ (.int .i64 (wrap64 (1 + t112)))).setCell ⟨gb140, 4, none⟩ (.int .i64 (wrap64 (1 + t115)))).setCell ⟨gb140, 5, none⟩ (.int .i64 0)).setCell ⟨gb140, 6, none⟩ (.int .i64 0)).setCell ⟨gb140, 7, none⟩ (.int .i64 0)).setCell ⟨gb140, 8, none⟩ (.int .i64 0)).setCell ⟨gb140, 9, none⟩ (.slice none 0 0)).heap[gb140]? = some (.cells #[.int .i64 0, .int .i64 0, .int .i64 t109, .int .i64 (wrap64 (1 + t112)), .int .i64 (wrap64 (1 + t115)), .int .i64 0, .int .i64 0, .int .i64 0, .int .i64 0, .slice none 0 0] 31 (0, 0))) := ⟨by (with_reducible repeat (first | refine blk_drewN ?_ _ | refine blk_drew ?_ | refine blk_alloc ?_ _)); refine blk_put (cs := #[.int .i64 0, .int .i64 0, .int .i64 t109, .int .i64 (wrap64 (1 + t112)), .int .i64 (wrap64 (1 + t115)), .int .i64 0, .int .i64 0, .int .i64 0, .int .i64 0, .slice none 0 0]) ?_ 9 _ rfl; (with_reducible repeat (first | refine blk_drewN ?_ _ | refine blk_drew ?_ | refine blk_alloc ?_ _)); refine blk_put (cs := #[.int .i64 0, .int .i64 0, .int .i64 t109, .int .i64 (wrap64 (1 + t112)), .int .i64 (wrap64 (1 + t115)), .int .i64 0, .int .i64 0, .int .i64 0, .int .i64 0, .slice none 0 0]) ?_ 8 _ rfl; (with_reducible repeat (first | refine blk_drewN ?_ _ | refine blk_drew ?_ | refine blk_alloc ?_ _)); refine blk_put (cs := #[.int .i64 0, .int .i64 0, .int .i64 t109, .int .i64 (wrap64 (1 + t112)), .int .i64 (wrap64 (1 + t115)), .int .i64 0, .int .i64 0, .int .i64 0, .int .i64 0, .slice none 0 0]) ?_ 7 _ rfl; (with_reducible repeat (first | refine blk_drewN ?_ _ | refine blk_drew ?_ | refine blk_alloc ?_ _)); refine blk_put (cs := #[.int .i64 0, .int .i64 0, .int .i64 t109, .int .i64 (wrap64 (1 + t112)), .int .i64 (wrap64 (1 + t115)), .int .i64 0, .int .i64 0, .int .i64 0, .int .i64 0, .slice none 0 0]) ?_ 6 _ rfl; (with_reducible repeat (first | refine blk_drewN ?_ _ | refine blk_drew ?_ | refine blk_alloc ?_ _)); refine blk_put (cs := #[.int .i64 0, .int .i64 0, .int .i64 t109, .int .i64 (wrap64 (1 + t112)), .int .i64 (wrap64 (1 + t115)), .int .i64 0, .int .i64 0, .int .i64 0, .int .i64 0, .slice none 0 0]) ?_ 5 _ rfl; (with_reducible repeat (first | refine blk_drewN ?_ _ | refine blk_drew ?_ | refine blk_alloc ?_ _)); refine blk_put (cs := #[.int .i64 0, .int .i64 0, .int .i64 t109, .int .i64 (wrap64 (1 + t112)), .int .i64 0, .int .i64 0, .int .i64 0, .int .i64 0, .int .i64 0, .slice none 0 0]) ?_ 4 _ rfl; (with_reducible repeat (first | refine blk_drewN ?_ _ | refine blk_drew ?_ | refine blk_alloc ?_ _)); refine blk_put (cs := #[.int .i64 0, .int .i64 0, .int .i64 t109, .int .i64 0, .int .i64 0, .int .i64 0, .int .i64 0, .int .i64 0, .int .i64 0, .slice none 0 0]) ?_ 3 _ rfl; (with_reducible repeat (first | refine blk_drewN ?_ _ | refine blk_drew ?_ | refine blk_alloc ?_ _)); refine blk_put (cs := #[.int .i64 0, .int .i64 0, .int .i64 0, .int .i64 0, .int .i64 0, .int .i64 0, .int .i64 0, .int .i64 0, .int .i64 0, .slice none 0 0]) ?_ 2 _ rfl; (with_reducible repeat (first | refine blk_drewN ?_ _ | refine blk_drew ?_ | refine blk_alloc ?_ _)); refine blk_put (cs := #[.int .i64 0, .int .i64 0, .int .i64 0, .int .i64 0, .int .i64 0, .int .i64 0, .int .i64 0, .int .i64 0, .int .i64 0, .slice none 0 0]) ?_ 1 _ rfl; (with_reducible repeat (first | refine blk_drewN ?_ _ | refine blk_drew ?_ | refine blk_alloc ?_ _)); refine blk_put (cs := #[.int .i64 0, .int .i64 0, .int .i64 0, .int .i64 0, .int .i64 0, .int .i64 0, .int .i64 0, .int .i64 0, .int .i64 0, .slice none 0 0]) ?_ 0 _ rfl; (with_reducible repeat (first | refine blk_drewN ?_ _ | refine blk_drew ?_ | refine blk_alloc ?_ _)); exact BK140.out⟩
                                    have n3_ : Aside0 (IsS68 w ((((((((((w99.setCell ⟨gb140, 0, none⟩ (.int .i64 0)).setCell ⟨gb140, 1, none⟩ (.int .i64 0)).setCell ⟨gb140, 2, none⟩ (.int .i64 t109)).setCell ⟨gb140, 3, none⟩ (.int .i64 (wrap64 (1 + t112)))).setCell ⟨gb140, 4, none⟩ (.int .i64 (wrap64 (1 + t115)))).setCell ⟨gb140, 5, none⟩ (.int .i64 0)).setCell ⟨gb140, 6, none⟩ (.int .i64 0)).setCell ⟨gb140, 7, none⟩ (.int .i64 0)).setCell ⟨gb140, 8, none⟩ (.int .i64 0)).setCell ⟨gb140, 9, none⟩ (.slice none 0 0)) g108 t105 t137 t138) := ⟨by repeat (first | (with_reducible first | exact HI108.out | apply IsS68.alloc | apply IsS68.drewN | apply IsS68.drew | apply IsS68.set_1 | apply IsS68.set_2 | refine IsS68.far ?_ NB108_118.out _ | refine IsS68.far ?_ NB108_135.out _ | refine IsS68.far ?_ NB108_140.out _) | exact HI108.out)⟩
                                    have n4_ : Aside0 (Below w.heap.size w ((((((((((w99.setCell ⟨gb140, 0, none⟩ (.int .i64 0)).setCell ⟨gb140, 1, none⟩ (.int .i64 0)).setCell ⟨gb140, 2, none⟩ (.int .i64 t109)).setCell ⟨gb140, 3, none⟩ (.int .i64 (wrap64 (1 + t112)))).setCell ⟨gb140, 4, none⟩ (.int .i64 (wrap64 (1 + t115)))).setCell ⟨gb140, 5, none⟩ (.int .i64 0)).setCell ⟨gb140, 6, none⟩ (.int .i64 0)).setCell ⟨gb140, 7, none⟩ (.int .i64 0)).setCell ⟨gb140, 8, none⟩ (.int .i64 0)).setCell ⟨gb140, 9, none⟩ (.slice none 0 0))) := ⟨by repeat (first | (with_reducible first | exact HB.out | apply below_alloc | apply pw_below_drewN | apply below_drew1 | refine below_set ?_ (IsS68.ge HI108.out) | refine below_set ?_ GE118.out | refine below_set ?_ GE135.out | refine below_set ?_ GE140.out) | exact HB.out)⟩
                                    (try clear BK118)
                                    (try clear BK135)
                                    (try clear BK140)
                                    (try clear HI108)
                                    (try clear HB)
                                    generalize ((((((((((w99.setCell ⟨gb140, 0, none⟩ (.int .i64 0)).setCell ⟨gb140, 1, none⟩ (.int .i64 0)).setCell ⟨gb140, 2, none⟩ (.int .i64 t109)).setCell ⟨gb140, 3, none⟩ (.int .i64 (wrap64 (1 + t112)))).setCell ⟨gb140, 4, none⟩ (.int .i64 (wrap64 (1 + t115)))).setCell ⟨gb140, 5, none⟩ (.int .i64 0)).setCell ⟨gb140, 6, none⟩ (.int .i64 0)).setCell ⟨gb140, 7, none⟩ (.int .i64 0)).setCell ⟨gb140, 8, none⟩ (.int .i64 0)).setCell ⟨gb140, 9, none⟩ (.slice none 0 0)) = w104 at n0_ n1_ n2_ n3_ n4_ ⊢
                                    have BK118 := n0_
                                    have BK135 := n1_
                                    have BK140 := n2_
                                    have HI108 := n3_
                                    have HB := n4_
                                    clear n0_ n1_ n2_ n3_ n4_
                                    have n0_ := Aside0.mk (blk_drew BK118.out)
                                    have n1_ := Aside0.mk (blk_drew BK135.out)
                                    have n2_ := Aside0.mk (blk_drew BK140.out)
                                    have n3_ := Aside0.mk (IsS68.drew HI108.out)
                                    have n4_ := Aside0.mk (below_drew1 HB.out)
                                    clear BK118
                                    clear BK135
                                    clear BK140
                                    clear HI108
                                    clear HB
                                    have BK118 := n0_
                                    have BK135 := n1_
                                    have BK140 := n2_
                                    have HI108 := n3_
                                    have HB := n4_
                                    clear n0_ n1_ n2_ n3_ n4_
                                    refine start_ (n := 7) (S := fun w' => w'.cell? ⟨gb140, 0, none⟩ = some (.int .i64 0) ∧ w'.cell? ⟨gb140, 1, none⟩ = some (.int .i64 0) ∧ w'.cell? ⟨gb140, 2, none⟩ = some (.int .i64 t109) ∧ w'.cell? ⟨gb140, 3, none⟩ = some (.int .i64 (wrap64 (1 + t112))) ∧ w'.cell? ⟨gb140, 4, none⟩ = some (.int .i64 (wrap64 (1 + t115))) ∧ w'.cell? ⟨gb140, 5, none⟩ = some (.int .i64 0) ∧ w'.cell? ⟨gb140, 6, none⟩ = some (.int .i64 0) ∧ w'.cell? ⟨gb140, 7, none⟩ = some (.int .i64 0) ∧ w'.cell? ⟨gb140, 8, none⟩ = some (.int .i64 0) ∧ w'.cell? ⟨gb140, 9, none⟩ = some (.slice none 0 0)) (ds := [6]) #[false, false, false, false, false, false, false] (by kernel_rfl) rfl rfl ⟨(blk_cell BK140.out 0).trans rfl, (blk_cell BK140.out 1).trans rfl, (blk_cell BK140.out 2).trans rfl, (blk_cell BK140.out 3).trans rfl, (blk_cell BK140.out 4).trans rfl, (blk_cell BK140.out 5).trans rfl, (blk_cell BK140.out 6).trans rfl, (blk_cell BK140.out 7).trans rfl, (blk_cell BK140.out 8).trans rfl, (blk_cell BK140.out 9).trans rfl⟩ (fun hHeld => ?_)
                                    generalize w104.drew = w105 at BK118 BK135 BK140 HI108 HB hHeld ⊢
                                    refine pure_ (i := 0) (N := some 100) (v := ?_) (a' := ?_) #[true, false, false, false, false, false, false] rfl rfl (by kernel_rfl) (fun _ _ _ h => h) (Or.inl ⟨by rfl, ?_⟩) ?_ ?_
                                    rotate_left
                                    · intro w'
                                      go_simp
                                      with_reducible rfl
                                    rotate_left
                                    · simp only [Act.put, List.setIfInBounds_toArray, List.set_cons_zero, List.set_cons_succ, i64_w, i32_w]
                                      rfl
                                    refine pure_ (i := 2) (N := some 102) (v := ?_) (a' := ?_) #[true, false, true, false, false, false, false] rfl rfl (by kernel_rfl) (fun _ _ _ h => h) (Or.inl ⟨by rfl, ?_⟩) ?_ ?_
                                    rotate_left
                                    · intro w'
                                      go_simp
                                      with_reducible rfl
                                    rotate_left
                                    · simp only [Act.put, List.setIfInBounds_toArray, List.set_cons_zero, List.set_cons_succ, i64_w, i32_w]
                                      rfl
                                    refine pure_ (i := 3) (N := some 103) (v := ?_) (a' := ?_) #[true, false, true, true, false, false, false] rfl rfl (by kernel_rfl) (fun _ _ _ h => h) (Or.inl ⟨by rfl, ?_⟩) ?_ ?_
                                    rotate_left
                                    · intro w'
                                      go_simp
                                      with_reducible rfl
                                    rotate_left
                                    · simp only [Act.put, List.setIfInBounds_toArray, List.set_cons_zero, List.set_cons_succ, i64_w, i32_w]
                                      rfl
                                    refine take_ (i := 1) (N := some 101) (v := ?_) (a' := ?_) #[true, true, true, true, false, false, false] rfl rfl (by kernel_rfl) (fun _ _ _ h => h) (Or.inl ⟨by rfl, ?_⟩) hHeld ?_ ?_
                                    rotate_left
                                    · rintro w' ⟨s0, s1, s2, s3, s4, s5, s6, s7, s8, s9⟩
                                      go_simp
                                      with_reducible rfl
                                    rotate_left
                                    · simp only [Act.put, List.setIfInBounds_toArray, List.set_cons_zero, List.set_cons_succ, i64_w, i32_w]
                                      rfl
                                    refine pure_ (i := 4) (N := some 104) (v := ?_) (a' := ?_) #[true, true, true, true, true, false, false] rfl rfl (by kernel_rfl) (fun _ _ _ h => h) (Or.inl ⟨by rfl, ?_⟩) ?_ ?_
                                    rotate_left
                                    · intro w'
                                      go_simp
                                      with_reducible rfl
                                    rotate_left
                                    · simp only [Act.put, List.setIfInBounds_toArray, List.set_cons_zero, List.set_cons_succ, i64_w, i32_w]
                                      rfl
                                    refine pure_ (i := 5) (N := some 105) (v := ?_) (a' := ?_) #[true, true, true, true, true, true, false] rfl rfl (by kernel_rfl) (fun _ _ _ h => h) (Or.inl ⟨by rfl, ?_⟩) ?_ ?_
                                    rotate_left
                                    · intro w'
                                      go_simp
                                      with_reducible rfl
                                    rotate_left
                                    · simp only [Act.put, List.setIfInBounds_toArray, List.set_cons_zero, List.set_cons_succ, i64_w, i32_w]
                                      rfl
                                    refine last_ (i := 6) (N := none) #[true, true, true, true, true, true, true] rfl rfl (by kernel_rfl) (by decide) (fun K hK => ?_)
                                    have hs106 : w105.cell? ⟨gb140, 2, none⟩ = some (.int .i64 t109) := (blk_cell BK140.out 2).trans rfl
                                    have hfs106 := blk_frozen BK140.out 2
                                    have hns106_0 := NB118_140.out
                                    have hns106_1 := NB135_140.out
                                    have hms106_0 := NB140_118.out
                                    have hms106_1 := NB140_135.out
                                    refine skip_ (w1 := ?_) (by rfl) rfl ?_ ?_
                                    rotate_left
                                    · go_simp
                                      rfl
                                    refine hK.out _ _ ?_
                                    clear hK K
                                    refine done_ (by kernel_rfl) ?_
                                    have hcz107_0 : w105.cell? ⟨gb140, 0, none⟩ = some (.int .i64 0) := (blk_cell BK140.out 0).trans rfl
                                    have hcz107_1 : w105.cell? ⟨gb140, 1, none⟩ = some (.int .i64 0) := (blk_cell BK140.out 1).trans rfl
                                    have hcz107_2 : w105.cell? ⟨gb140, 2, none⟩ = some (.int .i64 t109) := (blk_cell BK140.out 2).trans rfl
                                    have hcz107_3 : w105.cell? ⟨gb140, 3, none⟩ = some (.int .i64 (wrap64 (1 + t112))) := (blk_cell BK140.out 3).trans rfl
                                    have hcz107_4 : w105.cell? ⟨gb140, 4, none⟩ = some (.int .i64 (wrap64 (1 + t115))) := (blk_cell BK140.out 4).trans rfl
                                    have hcz107_5 : w105.cell? ⟨gb140, 5, none⟩ = some (.int .i64 0) := (blk_cell BK140.out 5).trans rfl
                                    have hcz107_6 : w105.cell? ⟨gb140, 6, none⟩ = some (.int .i64 0) := (blk_cell BK140.out 6).trans rfl
                                    have hcz107_7 : w105.cell? ⟨gb140, 7, none⟩ = some (.int .i64 0) := (blk_cell BK140.out 7).trans rfl
                                    have hcz107_8 : w105.cell? ⟨gb140, 8, none⟩ = some (.int .i64 0) := (blk_cell BK140.out 8).trans rfl
                                    have hcz107_9 : w105.cell? ⟨gb140, 9, none⟩ = some (.slice none 0 0) := (blk_cell BK140.out 9).trans rfl
                                    have hfz107_0 := blk_frozen BK140.out 0
                                    have hfz107_1 := blk_frozen BK140.out 1
                                    have hfz107_2 := blk_frozen BK140.out 2
                                    have hfz107_3 := blk_frozen BK140.out 3
                                    have hfz107_4 := blk_frozen BK140.out 4
                                    have hfz107_5 := blk_frozen BK140.out 5
                                    have hfz107_6 := blk_frozen BK140.out 6
                                    have hfz107_7 := blk_frozen BK140.out 7
                                    have hfz107_8 := blk_frozen BK140.out 8
                                    have hfz107_9 := blk_frozen BK140.out 9
                                    try go_wp2_with (first | ((with_reducible refine gate_callee (f := 21) rfl ?_); refine goesL_ (some 110) rfl rfl Try.func21 (by kernel_rfl) rfl #[.agg #[.int .i64 0, .int .i64 0, .int .i64 (Go.bits .and .i64 t109 (ji80)), .int .i64 (wrap64 (1 + t112)), .int .i64 (wrap64 (1 + t115)), .int .i64 0, .int .i64 0, .int .i64 0, .int .i64 0, .slice none 0 0], .int .i64 (wrap64 (1 + t119)), .int .i64 (wrap64 (1 + t122)), .int .i64 t125] rfl (by (try simp only [List.map_toArray, List.map_cons, List.map_nil]); first | done | (simp only [hji80]; rfl) | rfl | (simp only [List.length_drop, List.length_take]; rfl)) ?_; (refine (impl_MayAccess.calls 0 0 (Go.bits .and .i64 t109 (ji80)) (wrap64 (1 + t112)) (wrap64 (1 + t115)) 0 0 0 0 _ _ ([] : List Int) (wrap64 (1 + t119)) (wrap64 (1 + t122)) t125 t141 _ ?side1 ?side2 A81.out).mono ?_); (case side1 => exact Kd.C_nil _ _); (case side2 => exact Nat.le_refl _); rintro e w108 ⟨rfl, hb⟩; refine ⟨_, rfl, ?_⟩; have n0_ := Aside0.mk (blk_below (g := gb118) (o := .cells #[.int .i64 0, .int .i64 0, .int .i64 t109, .int .i64 (wrap64 (1 + t112)), .int .i64 (wrap64 (1 + t115)), .int .i64 0, .int .i64 0, .int .i64 0, .int .i64 0, .slice none 0 0] 31 (0, 0)) (by (with_reducible repeat (first | refine blk_drewN ?_ _ | refine blk_drew ?_ | refine blk_alloc ?_ _)); refine blk_far ?_ NB118_140.out _; (with_reducible repeat (first | refine blk_drewN ?_ _ | refine blk_drew ?_ | refine blk_alloc ?_ _)); exact BK118.out) hb); have n1_ := Aside0.mk (blk_below (g := gb135) (o := .cells #[.int .i64 0, .int .i64 0, .int .i64 (Go.bits .or .i64 t109 t136), .int .i64 (wrap64 (1 + t112)), .int .i64 (wrap64 (1 + t115)), .int .i64 0, .int .i64 0, .int .i64 0, .int .i64 0, .slice none 0 0] 31 (0, 0)) (by (with_reducible repeat (first | refine blk_drewN ?_ _ | refine blk_drew ?_ | refine blk_alloc ?_ _)); refine blk_far ?_ NB135_140.out _; (with_reducible repeat (first | refine blk_drewN ?_ _ | refine blk_drew ?_ | refine blk_alloc ?_ _)); exact BK135.out) hb); have n2_ := Aside0.mk (IsS68.below (show IsS68 w (w105.setCell ⟨gb140, 2, none⟩ (.int .i64 (Go.bits .and .i64 t109 (ji80)))) g108 t105 t137 t138 from by repeat (first | (with_reducible first | exact HI108.out | apply IsS68.alloc | apply IsS68.drewN | apply IsS68.drew | apply IsS68.set_1 | apply IsS68.set_2 | refine IsS68.far ?_ NB108_118.out _ | refine IsS68.far ?_ NB108_135.out _ | refine IsS68.far ?_ NB108_140.out _) | exact HI108.out)) hb); have n3_ := Aside0.mk (blk_below (g := gb140) (o := .cells #[.int .i64 0, .int .i64 0, .int .i64 (Go.bits .and .i64 t109 (ji80)), .int .i64 (wrap64 (1 + t112)), .int .i64 (wrap64 (1 + t115)), .int .i64 0, .int .i64 0, .int .i64 0, .int .i64 0, .slice none 0 0] 31 (0, 0)) (by (with_reducible repeat (first | refine blk_drewN ?_ _ | refine blk_drew ?_ | refine blk_alloc ?_ _)); refine blk_put (cs := #[.int .i64 0, .int .i64 0, .int .i64 t109, .int .i64 (wrap64 (1 + t112)), .int .i64 (wrap64 (1 + t115)), .int .i64 0, .int .i64 0, .int .i64 0, .int .i64 0, .slice none 0 0]) ?_ 2 _ rfl; (with_reducible repeat (first | refine blk_drewN ?_ _ | refine blk_drew ?_ | refine blk_alloc ?_ _)); exact BK140.out) hb); have n4_ := Aside0.mk (below_step (by repeat (first | (with_reducible first | exact HB.out | apply below_alloc | apply pw_below_drewN | apply below_drew1 | refine below_set ?_ (IsS68.ge HI108.out) | refine below_set ?_ GE118.out | refine below_set ?_ GE135.out | refine below_set ?_ GE140.out) | exact HB.out)) hb); clear BK118; clear BK135; clear HI108; clear BK140; clear HB; have BK118 := n0_; have BK135 := n1_; have HI108 := n2_; have BK140 := n3_; have HB := n4_; clear n0_ n1_ n2_ n3_ n4_; (try clear hb); (try clear hb2); (try clear hk); (try clear hi)))
                                    go_roundg kj66
                                    case measure => have := HK1.out; have := HK2.out; have := HJ34.out; have := HJ48.out; have := HJ66.out; omega
                                    case rel => exact ⟨(wrap64 (x4_1 + 1)), (t137), (t138), (by first | rfl | (simp; done) | (simp [*]; done)), H', ⟨by have := HK1.out; have := HK2.out; have := HJ34.out; have := HJ48.out; have := HJ66.out; omega⟩, ⟨by repeat (first | (with_reducible first | exact HI108.out | apply IsS68.alloc | apply IsS68.drewN | apply IsS68.drew | apply IsS68.set_1 | apply IsS68.set_2 | refine IsS68.far ?_ NB108_118.out _ | refine IsS68.far ?_ NB108_135.out _ | refine IsS68.far ?_ NB108_140.out _) | exact HI108.out)⟩, ⟨by repeat (first | (with_reducible first | exact HB.out | apply below_alloc | apply pw_below_drewN | apply below_drew1 | refine below_set ?_ (IsS68.ge HI108.out) | refine below_set ?_ GE118.out | refine below_set ?_ GE135.out | refine below_set ?_ GE140.out) | exact HB.out)⟩⟩
                                · rw [if_neg c79] at H
                                  exact absurd H (by simp)
        · rw [if_neg c5] at H
          have c5b0 : decide (x4_1 < 20) = false := decide_eq_false c5
          clear c5
          obtain rfl := Option.some.inj H
          go_wp2
          go_ret
          exact ⟨by first | rfl | (simp [errW_none, errW_some] <;> rfl) | (simp [*, errW_none, errW_some] <;> rfl), by repeat (first | (with_reducible first | exact HB.out | apply below_alloc | apply pw_below_drewN | apply below_drew1 | refine below_set ?_ (IsS68.ge HI108.out)) | exact HB.out)⟩

/-- THE ONE PURE STATEMENT of laws_FnAccess: yours. -/
def laws_FnAccess.Pure : Prop := ∀ (l0 : List Int), l0.length ≤ maxLen → l0.length * 1 ≤ 140737488351232 → (∀ x ∈ l0, (Lit.int .u8 x).wf = true) → ∃ k, laws_FnAccess.f k l0 = some true
theorem laws_FnAccess.walk (P : laws_FnAccess.Pure) (a0 : Option Addr) (len0 cap0 : Nat) (z0 : List Int) (w : World) (w0 : (a0 = none ∧ len0 = 0 ∧ cap0 = 0 ∧ z0 = []) ∨ ∃ x, a0 = some x ∧ len0 ≤ cap0 ∧ cap0 ≤ maxLen ∧ z0.length = cap0 ∧ (∀ i, i < z0.length → w.cell? (x.add i) = some (.int .u8 (z0.getD i 0))) ∧ ∀ n ∈ z0, (Lit.int .u8 n).wf = true) (y0 : len0 * 1 ≤ 140737488351232) :
    Calls Try.prog 6 #[.slice a0 len0 cap0] w fun e w' => e = .returned (.bool true) ∧ Below w.heap.size w w' := by
  obtain ⟨l0, rfl, hr0, hm0, hw0, hc0⟩ := ReadsInt.ofRowC w0
  obtain ⟨k, h⟩ := P l0 hm0 y0 hw0
  refine (laws_FnAccess.calls k _ _ l0 true w (Kd.C_of_reads (d := (0 : Int)) (h1 := fun _ => rfl) hr0) hc0 h).mono ?_
  rintro e w' ⟨rfl, hd⟩
  exact ⟨rfl, hd⟩

end Go.Proofs.Ytjhaofdnlnbajaa.PFnAccess
