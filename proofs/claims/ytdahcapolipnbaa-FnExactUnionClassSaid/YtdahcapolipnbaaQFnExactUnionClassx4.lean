/- What some Go functions answer, each as a Lean function, and that the machine answers so: written by a program of this session out of the translation. -/
import Derived.Test.YtdahcapolipnbaaQFnExactUnionClassx0
import Derived.Test.YtdahcapolipnbaaQFnExactUnionClassx1
import Derived.Test.YtdahcapolipnbaaQFnExactUnionClassx2
import Derived.Test.YtdahcapolipnbaaQFnExactUnionClassx3
namespace Go.Proofs.Ytdahcapolipnbaa.QFnExactUnionClass
open Go.RowKit Go.Proofs.YtdahcapolipnbaaW.PrintWords Go.Proofs.YtdahcapolipnbaaW.PrintLast Go.Proofs.YtdahcapolipnbaaW.PrintMore Go.Proofs.Ytdahcapolipnbaa.Rp
attribute [local go_sem] max2_int min2_int max_two min_two max_three min_three max_four min_four   -- for this text's walks alone
set_option linter.unusedVariables false
set_option linter.unusedSimpArgs false

/-! ### laws_FnExactUnionClass: function 5 -/
mutual
def laws_FnExactUnionClass.j0 : Nat → List Int → List Int → Option (Bool)
 | 0, _, _ => none
 | k + 1, x0, x1 => if (x1.length : Int) > 1048576 then (some true) else (laws_FnExactUnionClass.j1 k x0 x1)
def laws_FnExactUnionClass.j1 : Nat → List Int → List Int → Option (Bool)
 | 0, _, _ => none
 | k + 1, x0, x1 => (laws_toInt64S.f k x0).bind fun t289 => ((laws_toInt64S.f k x1).bind fun t292 => ((spec_UnionClass.f k t289 t292).bind fun bt295 => ((laws_toInt64S.f k x0).bind fun t299 => ((laws_toInt64S.f k x1).bind fun t302 => ((impl_UnionClass.f k t299 t302).bind fun bt305 => ((laws_eqInt64S.f k bt305.1 bt295.1).bind fun t309 => (if t309 = true then (laws_FnExactUnionClass.j2 k x0 x1 bt295.1 bt295.2 t299 t302 bt305.1 bt305.2 (bt305.2 != bt295.2)) else (laws_FnExactUnionClass.j2 k x0 x1 bt295.1 bt295.2 t299 t302 bt305.1 bt305.2 true))))))))
def laws_FnExactUnionClass.j2 : Nat → List Int → List Int → List Int → Int → List Int → List Int → List Int → Int → Bool → Option (Bool)
 | 0, _, _, _, _, _, _, _, _, _ => none
 | k + 1, x0, x1, x5, x6, x7, x8, x9, x10, x48 => if x48 = true then (some false) else (laws_FnExactUnionClass.j3 k x0 x1 x5 x6 x7 x8 x9 x10)
def laws_FnExactUnionClass.j3 : Nat → List Int → List Int → List Int → Int → List Int → List Int → List Int → Int → Option (Bool)
 | 0, _, _, _, _, _, _, _, _ => none
 | k + 1, x0, x1, x5, x6, x7, x8, x9, x10 => (laws_toInt64S.f k x0).bind fun t310 => ((laws_eqInt64S.f k x7 t310).bind fun t313 => (if t313 = true then (laws_FnExactUnionClass.j4 k x0 x1 x5 x6 x7 x8 x9 x10) else (some false)))
def laws_FnExactUnionClass.j4 : Nat → List Int → List Int → List Int → Int → List Int → List Int → List Int → Int → Option (Bool)
 | 0, _, _, _, _, _, _, _, _ => none
 | k + 1, x0, x1, x5, x6, x7, x8, x9, x10 => (laws_toInt64S.f k x1).bind fun t314 => ((laws_eqInt64S.f k x8 t314).bind fun t317 => (if t317 = true then (laws_FnExactUnionClass.j5 k x0 x1 x5 x6 x7 x8 x9 x10) else (some false)))
def laws_FnExactUnionClass.j5 : Nat → List Int → List Int → List Int → Int → List Int → List Int → List Int → Int → Option (Bool)
 | 0, _, _, _, _, _, _, _, _ => none
 | k + 1, x0, x1, x5, x6, x7, x8, x9, x10 => (laws_markInt64S.f k x7 1).bind fun bt318 => ((laws_markInt64S.f k x8 bt318.1).bind fun bt320 => (if bt320.1 < 0 then (laws_FnExactUnionClass.j6 k x0 x1 x5 x6 x9 true) else ((laws_eqInt64S.f k x9 x5).bind fun t322 => (if t322 = true then (laws_FnExactUnionClass.j6 k x0 x1 x5 x6 x9 (x10 != x6)) else (laws_FnExactUnionClass.j6 k x0 x1 x5 x6 x9 true)))))
def laws_FnExactUnionClass.j6 : Nat → List Int → List Int → List Int → Int → List Int → Bool → Option (Bool)
 | 0, _, _, _, _, _, _ => none
 | k + 1, x0, x1, x5, x6, x9, x77 => if x77 = true then (some false) else (laws_FnExactUnionClass.j7 k x0 x1 x5 x6 x9)
def laws_FnExactUnionClass.j7 : Nat → List Int → List Int → List Int → Int → List Int → Option (Bool)
 | 0, _, _, _, _, _ => none
 | k + 1, x0, x1, x5, x6, x9 => (laws_markInt64S.f k x9 1).bind fun bt323 => ((laws_heldInt64S.f k bt323.2 1).bind fun t325 => (if t325 < 0 then (some false) else (laws_FnExactUnionClass.j8 k x0 x1 x5 x6 bt323.2 bt323.1 t325)))
def laws_FnExactUnionClass.j8 : Nat → List Int → List Int → List Int → Int → List Int → Int → Int → Option (Bool)
 | 0, _, _, _, _, _, _, _ => none
 | k + 1, x0, x1, x5, x6, x9, x12, x13 => if x13 = x12 then (laws_FnExactUnionClass.j9 k x0 x1 x5 x6 x9 x12) else (some false)
def laws_FnExactUnionClass.j9 : Nat → List Int → List Int → List Int → Int → List Int → Int → Option (Bool)
 | 0, _, _, _, _, _, _ => none
 | k + 1, x0, x1, x5, x6, x9, x12 => (laws_toInt64S.f k x0).bind fun t326 => ((laws_toInt64S.f k x1).bind fun t329 => ((impl_UnionClass.f k t326 t329).bind fun bt332 => ((laws_eqInt64S.f k bt332.1 x5).bind fun t336 => (if t336 = true then (laws_FnExactUnionClass.j10 k x9 x12 (bt332.2 != x6)) else (laws_FnExactUnionClass.j10 k x9 x12 true)))))
def laws_FnExactUnionClass.j10 : Nat → List Int → Int → Bool → Option (Bool)
 | 0, _, _, _ => none
 | k + 1, x9, x12, x105 => if x105 = true then (some false) else (laws_FnExactUnionClass.j11 k x9 x12)
def laws_FnExactUnionClass.j11 : Nat → List Int → Int → Option (Bool)
 | 0, _, _ => none
 | k + 1, x9, x12 => (laws_heldInt64S.f k x9 1).bind fun t337 => (if t337 < 0 then (some false) else (if t337 = x12 then (some true) else (some false)))
end
def laws_FnExactUnionClass.f (k : Nat) (l0 : List Int) (l1 : List Int) : Option (Bool) := if (l0.length : Int) > 1048576 then (some true) else (laws_FnExactUnionClass.j0 k l0 l1)
theorem laws_FnExactUnionClass.mono_l : ∀ k, (∀ y0 y1, LeO (laws_FnExactUnionClass.j0 k y0 y1) (laws_FnExactUnionClass.j0 (k + 1) y0 y1)) ∧ (∀ y0 y1, LeO (laws_FnExactUnionClass.j1 k y0 y1) (laws_FnExactUnionClass.j1 (k + 1) y0 y1)) ∧ (∀ y0 y1 y2 y3 y4 y5 y6 y7 y8, LeO (laws_FnExactUnionClass.j2 k y0 y1 y2 y3 y4 y5 y6 y7 y8) (laws_FnExactUnionClass.j2 (k + 1) y0 y1 y2 y3 y4 y5 y6 y7 y8)) ∧ (∀ y0 y1 y2 y3 y4 y5 y6 y7, LeO (laws_FnExactUnionClass.j3 k y0 y1 y2 y3 y4 y5 y6 y7) (laws_FnExactUnionClass.j3 (k + 1) y0 y1 y2 y3 y4 y5 y6 y7)) ∧ (∀ y0 y1 y2 y3 y4 y5 y6 y7, LeO (laws_FnExactUnionClass.j4 k y0 y1 y2 y3 y4 y5 y6 y7) (laws_FnExactUnionClass.j4 (k + 1) y0 y1 y2 y3 y4 y5 y6 y7)) ∧ (∀ y0 y1 y2 y3 y4 y5 y6 y7, LeO (laws_FnExactUnionClass.j5 k y0 y1 y2 y3 y4 y5 y6 y7) (laws_FnExactUnionClass.j5 (k + 1) y0 y1 y2 y3 y4 y5 y6 y7)) ∧ (∀ y0 y1 y2 y3 y4 y5, LeO (laws_FnExactUnionClass.j6 k y0 y1 y2 y3 y4 y5) (laws_FnExactUnionClass.j6 (k + 1) y0 y1 y2 y3 y4 y5)) ∧ (∀ y0 y1 y2 y3 y4, LeO (laws_FnExactUnionClass.j7 k y0 y1 y2 y3 y4) (laws_FnExactUnionClass.j7 (k + 1) y0 y1 y2 y3 y4)) ∧ (∀ y0 y1 y2 y3 y4 y5 y6, LeO (laws_FnExactUnionClass.j8 k y0 y1 y2 y3 y4 y5 y6) (laws_FnExactUnionClass.j8 (k + 1) y0 y1 y2 y3 y4 y5 y6)) ∧ (∀ y0 y1 y2 y3 y4 y5, LeO (laws_FnExactUnionClass.j9 k y0 y1 y2 y3 y4 y5) (laws_FnExactUnionClass.j9 (k + 1) y0 y1 y2 y3 y4 y5)) ∧ (∀ y0 y1 y2, LeO (laws_FnExactUnionClass.j10 k y0 y1 y2) (laws_FnExactUnionClass.j10 (k + 1) y0 y1 y2)) ∧ (∀ y0 y1, LeO (laws_FnExactUnionClass.j11 k y0 y1) (laws_FnExactUnionClass.j11 (k + 1) y0 y1))
 | 0 => ⟨fun _ _ r h => by simp [laws_FnExactUnionClass.j0] at h, fun _ _ r h => by simp [laws_FnExactUnionClass.j1] at h, fun _ _ _ _ _ _ _ _ _ r h => by simp [laws_FnExactUnionClass.j2] at h, fun _ _ _ _ _ _ _ _ r h => by simp [laws_FnExactUnionClass.j3] at h, fun _ _ _ _ _ _ _ _ r h => by simp [laws_FnExactUnionClass.j4] at h, fun _ _ _ _ _ _ _ _ r h => by simp [laws_FnExactUnionClass.j5] at h, fun _ _ _ _ _ _ r h => by simp [laws_FnExactUnionClass.j6] at h, fun _ _ _ _ _ r h => by simp [laws_FnExactUnionClass.j7] at h, fun _ _ _ _ _ _ _ r h => by simp [laws_FnExactUnionClass.j8] at h, fun _ _ _ _ _ _ r h => by simp [laws_FnExactUnionClass.j9] at h, fun _ _ _ r h => by simp [laws_FnExactUnionClass.j10] at h, fun _ _ r h => by simp [laws_FnExactUnionClass.j11] at h⟩
 | k + 1 => by
  obtain ⟨ih0, ih1, ih2, ih3, ih4, ih5, ih6, ih7, ih8, ih9, ih10, ih11⟩ := laws_FnExactUnionClass.mono_l k
  refine ⟨?_, ?_, ?_, ?_, ?_, ?_, ?_, ?_, ?_, ?_, ?_, ?_⟩
  ·intro y0 y1
   unfold laws_FnExactUnionClass.j0
   repeat' first
   | (with_reducible exact ih0 _ _)
   | (with_reducible exact ih1 _ _)
   | (with_reducible exact ih2 _ _ _ _ _ _ _ _ _)
   | (with_reducible exact ih3 _ _ _ _ _ _ _ _)
   | (with_reducible exact ih4 _ _ _ _ _ _ _ _)
   | (with_reducible exact ih5 _ _ _ _ _ _ _ _)
   | (with_reducible exact ih6 _ _ _ _ _ _)
   | (with_reducible exact ih7 _ _ _ _ _)
   | (with_reducible exact ih8 _ _ _ _ _ _ _)
   | (with_reducible exact ih9 _ _ _ _ _ _)
   | (with_reducible exact ih10 _ _ _)
   | (with_reducible exact ih11 _ _)
   | (with_reducible exact impl_UnionClass.mono _ _ _)
   | (with_reducible exact laws_eqInt64S.mono _ _ _)
   | (with_reducible exact laws_heldInt64S.mono _ _ _)
   | (with_reducible exact laws_markInt64S.mono _ _ _)
   | (with_reducible exact laws_toInt64S.mono _ _)
   | (with_reducible exact spec_UnionClass.mono _ _ _)
   | (with_reducible exact LeO.refl _)
   | (with_reducible exact LeO.none _)
   | (with_reducible refine LeO.ite ?_ ?_)
   | (with_reducible refine LeO.bind ?_ (fun _ => ?_))
   | exact ih0 _ _
   | exact ih1 _ _
   | exact ih2 _ _ _ _ _ _ _ _ _
   | exact ih3 _ _ _ _ _ _ _ _
   | exact ih4 _ _ _ _ _ _ _ _
   | exact ih5 _ _ _ _ _ _ _ _
   | exact ih6 _ _ _ _ _ _
   | exact ih7 _ _ _ _ _
   | exact ih8 _ _ _ _ _ _ _
   | exact ih9 _ _ _ _ _ _
   | exact ih10 _ _ _
   | exact ih11 _ _
   | exact impl_UnionClass.mono _ _ _
   | exact laws_eqInt64S.mono _ _ _
   | exact laws_heldInt64S.mono _ _ _
   | exact laws_markInt64S.mono _ _ _
   | exact laws_toInt64S.mono _ _
   | exact spec_UnionClass.mono _ _ _
   | exact LeO.none _
   | refine LeO.ite ?_ ?_
   | refine LeO.bind ?_ (fun _ => ?_)
  ·intro y0 y1
   unfold laws_FnExactUnionClass.j1
   repeat' first
   | (with_reducible exact ih0 _ _)
   | (with_reducible exact ih1 _ _)
   | (with_reducible exact ih2 _ _ _ _ _ _ _ _ _)
   | (with_reducible exact ih3 _ _ _ _ _ _ _ _)
   | (with_reducible exact ih4 _ _ _ _ _ _ _ _)
   | (with_reducible exact ih5 _ _ _ _ _ _ _ _)
   | (with_reducible exact ih6 _ _ _ _ _ _)
   | (with_reducible exact ih7 _ _ _ _ _)
   | (with_reducible exact ih8 _ _ _ _ _ _ _)
   | (with_reducible exact ih9 _ _ _ _ _ _)
   | (with_reducible exact ih10 _ _ _)
   | (with_reducible exact ih11 _ _)
   | (with_reducible exact impl_UnionClass.mono _ _ _)
   | (with_reducible exact laws_eqInt64S.mono _ _ _)
   | (with_reducible exact laws_heldInt64S.mono _ _ _)
   | (with_reducible exact laws_markInt64S.mono _ _ _)
   | (with_reducible exact laws_toInt64S.mono _ _)
   | (with_reducible exact spec_UnionClass.mono _ _ _)
   | (with_reducible exact LeO.refl _)
   | (with_reducible exact LeO.none _)
   | (with_reducible refine LeO.ite ?_ ?_)
   | (with_reducible refine LeO.bind ?_ (fun _ => ?_))
   | exact ih0 _ _
   | exact ih1 _ _
   | exact ih2 _ _ _ _ _ _ _ _ _
   | exact ih3 _ _ _ _ _ _ _ _
   | exact ih4 _ _ _ _ _ _ _ _
   | exact ih5 _ _ _ _ _ _ _ _
   | exact ih6 _ _ _ _ _ _
   | exact ih7 _ _ _ _ _
   | exact ih8 _ _ _ _ _ _ _
   | exact ih9 _ _ _ _ _ _
   | exact ih10 _ _ _
   | exact ih11 _ _
   | exact impl_UnionClass.mono _ _ _
   | exact laws_eqInt64S.mono _ _ _
   | exact laws_heldInt64S.mono _ _ _
   | exact laws_markInt64S.mono _ _ _
   | exact laws_toInt64S.mono _ _
   | exact spec_UnionClass.mono _ _ _
   | exact LeO.none _
   | refine LeO.ite ?_ ?_
   | refine LeO.bind ?_ (fun _ => ?_)
  ·intro y0 y1 y2 y3 y4 y5 y6 y7 y8
   unfold laws_FnExactUnionClass.j2
   repeat' first
   | (with_reducible exact ih0 _ _)
   | (with_reducible exact ih1 _ _)
   | (with_reducible exact ih2 _ _ _ _ _ _ _ _ _)
   | (with_reducible exact ih3 _ _ _ _ _ _ _ _)
   | (with_reducible exact ih4 _ _ _ _ _ _ _ _)
   | (with_reducible exact ih5 _ _ _ _ _ _ _ _)
   | (with_reducible exact ih6 _ _ _ _ _ _)
   | (with_reducible exact ih7 _ _ _ _ _)
   | (with_reducible exact ih8 _ _ _ _ _ _ _)
   | (with_reducible exact ih9 _ _ _ _ _ _)
   | (with_reducible exact ih10 _ _ _)
   | (with_reducible exact ih11 _ _)
   | (with_reducible exact impl_UnionClass.mono _ _ _)
   | (with_reducible exact laws_eqInt64S.mono _ _ _)
   | (with_reducible exact laws_heldInt64S.mono _ _ _)
   | (with_reducible exact laws_markInt64S.mono _ _ _)
   | (with_reducible exact laws_toInt64S.mono _ _)
   | (with_reducible exact spec_UnionClass.mono _ _ _)
   | (with_reducible exact LeO.refl _)
   | (with_reducible exact LeO.none _)
   | (with_reducible refine LeO.ite ?_ ?_)
   | (with_reducible refine LeO.bind ?_ (fun _ => ?_))
   | exact ih0 _ _
   | exact ih1 _ _
   | exact ih2 _ _ _ _ _ _ _ _ _
   | exact ih3 _ _ _ _ _ _ _ _
   | exact ih4 _ _ _ _ _ _ _ _
   | exact ih5 _ _ _ _ _ _ _ _
   | exact ih6 _ _ _ _ _ _
   | exact ih7 _ _ _ _ _
   | exact ih8 _ _ _ _ _ _ _
   | exact ih9 _ _ _ _ _ _
   | exact ih10 _ _ _
   | exact ih11 _ _
   | exact impl_UnionClass.mono _ _ _
   | exact laws_eqInt64S.mono _ _ _
   | exact laws_heldInt64S.mono _ _ _
   | exact laws_markInt64S.mono _ _ _
   | exact laws_toInt64S.mono _ _
   | exact spec_UnionClass.mono _ _ _
   | exact LeO.none _
   | refine LeO.ite ?_ ?_
   | refine LeO.bind ?_ (fun _ => ?_)
  ·intro y0 y1 y2 y3 y4 y5 y6 y7
   unfold laws_FnExactUnionClass.j3
   repeat' first
   | (with_reducible exact ih0 _ _)
   | (with_reducible exact ih1 _ _)
   | (with_reducible exact ih2 _ _ _ _ _ _ _ _ _)
   | (with_reducible exact ih3 _ _ _ _ _ _ _ _)
   | (with_reducible exact ih4 _ _ _ _ _ _ _ _)
   | (with_reducible exact ih5 _ _ _ _ _ _ _ _)
   | (with_reducible exact ih6 _ _ _ _ _ _)
   | (with_reducible exact ih7 _ _ _ _ _)
   | (with_reducible exact ih8 _ _ _ _ _ _ _)
   | (with_reducible exact ih9 _ _ _ _ _ _)
   | (with_reducible exact ih10 _ _ _)
   | (with_reducible exact ih11 _ _)
   | (with_reducible exact impl_UnionClass.mono _ _ _)
   | (with_reducible exact laws_eqInt64S.mono _ _ _)
   | (with_reducible exact laws_heldInt64S.mono _ _ _)
   | (with_reducible exact laws_markInt64S.mono _ _ _)
   | (with_reducible exact laws_toInt64S.mono _ _)
   | (with_reducible exact spec_UnionClass.mono _ _ _)
   | (with_reducible exact LeO.refl _)
   | (with_reducible exact LeO.none _)
   | (with_reducible refine LeO.ite ?_ ?_)
   | (with_reducible refine LeO.bind ?_ (fun _ => ?_))
   | exact ih0 _ _
   | exact ih1 _ _
   | exact ih2 _ _ _ _ _ _ _ _ _
   | exact ih3 _ _ _ _ _ _ _ _
   | exact ih4 _ _ _ _ _ _ _ _
   | exact ih5 _ _ _ _ _ _ _ _
   | exact ih6 _ _ _ _ _ _
   | exact ih7 _ _ _ _ _
   | exact ih8 _ _ _ _ _ _ _
   | exact ih9 _ _ _ _ _ _
   | exact ih10 _ _ _
   | exact ih11 _ _
   | exact impl_UnionClass.mono _ _ _
   | exact laws_eqInt64S.mono _ _ _
   | exact laws_heldInt64S.mono _ _ _
   | exact laws_markInt64S.mono _ _ _
   | exact laws_toInt64S.mono _ _
   | exact spec_UnionClass.mono _ _ _
   | exact LeO.none _
   | refine LeO.ite ?_ ?_
   | refine LeO.bind ?_ (fun _ => ?_)
  ·intro y0 y1 y2 y3 y4 y5 y6 y7
   unfold laws_FnExactUnionClass.j4
   repeat' first
   | (with_reducible exact ih0 _ _)
   | (with_reducible exact ih1 _ _)
   | (with_reducible exact ih2 _ _ _ _ _ _ _ _ _)
   | (with_reducible exact ih3 _ _ _ _ _ _ _ _)
   | (with_reducible exact ih4 _ _ _ _ _ _ _ _)
   | (with_reducible exact ih5 _ _ _ _ _ _ _ _)
   | (with_reducible exact ih6 _ _ _ _ _ _)
   | (with_reducible exact ih7 _ _ _ _ _)
   | (with_reducible exact ih8 _ _ _ _ _ _ _)
   | (with_reducible exact ih9 _ _ _ _ _ _)
   | (with_reducible exact ih10 _ _ _)
   | (with_reducible exact ih11 _ _)
   | (with_reducible exact impl_UnionClass.mono _ _ _)
   | (with_reducible exact laws_eqInt64S.mono _ _ _)
   | (with_reducible exact laws_heldInt64S.mono _ _ _)
   | (with_reducible exact laws_markInt64S.mono _ _ _)
   | (with_reducible exact laws_toInt64S.mono _ _)
   | (with_reducible exact spec_UnionClass.mono _ _ _)
   | (with_reducible exact LeO.refl _)
   | (with_reducible exact LeO.none _)
   | (with_reducible refine LeO.ite ?_ ?_)
   | (with_reducible refine LeO.bind ?_ (fun _ => ?_))
   | exact ih0 _ _
   | exact ih1 _ _
   | exact ih2 _ _ _ _ _ _ _ _ _
   | exact ih3 _ _ _ _ _ _ _ _
   | exact ih4 _ _ _ _ _ _ _ _
   | exact ih5 _ _ _ _ _ _ _ _
   | exact ih6 _ _ _ _ _ _
   | exact ih7 _ _ _ _ _
   | exact ih8 _ _ _ _ _ _ _
   | exact ih9 _ _ _ _ _ _
   | exact ih10 _ _ _
   | exact ih11 _ _
   | exact impl_UnionClass.mono _ _ _
   | exact laws_eqInt64S.mono _ _ _
   | exact laws_heldInt64S.mono _ _ _
   | exact laws_markInt64S.mono _ _ _
   | exact laws_toInt64S.mono _ _
   | exact spec_UnionClass.mono _ _ _
   | exact LeO.none _
   | refine LeO.ite ?_ ?_
   | refine LeO.bind ?_ (fun _ => ?_)
  ·intro y0 y1 y2 y3 y4 y5 y6 y7
   unfold laws_FnExactUnionClass.j5
   repeat' first
   | (with_reducible exact ih0 _ _)
   | (with_reducible exact ih1 _ _)
   | (with_reducible exact ih2 _ _ _ _ _ _ _ _ _)
   | (with_reducible exact ih3 _ _ _ _ _ _ _ _)
   | (with_reducible exact ih4 _ _ _ _ _ _ _ _)
   | (with_reducible exact ih5 _ _ _ _ _ _ _ _)
   | (with_reducible exact ih6 _ _ _ _ _ _)
   | (with_reducible exact ih7 _ _ _ _ _)
   | (with_reducible exact ih8 _ _ _ _ _ _ _)
   | (with_reducible exact ih9 _ _ _ _ _ _)
   | (with_reducible exact ih10 _ _ _)
   | (with_reducible exact ih11 _ _)
   | (with_reducible exact impl_UnionClass.mono _ _ _)
   | (with_reducible exact laws_eqInt64S.mono _ _ _)
   | (with_reducible exact laws_heldInt64S.mono _ _ _)
   | (with_reducible exact laws_markInt64S.mono _ _ _)
   | (with_reducible exact laws_toInt64S.mono _ _)
   | (with_reducible exact spec_UnionClass.mono _ _ _)
   | (with_reducible exact LeO.refl _)
   | (with_reducible exact LeO.none _)
   | (with_reducible refine LeO.ite ?_ ?_)
   | (with_reducible refine LeO.bind ?_ (fun _ => ?_))
   | exact ih0 _ _
   | exact ih1 _ _
   | exact ih2 _ _ _ _ _ _ _ _ _
   | exact ih3 _ _ _ _ _ _ _ _
   | exact ih4 _ _ _ _ _ _ _ _
   | exact ih5 _ _ _ _ _ _ _ _
   | exact ih6 _ _ _ _ _ _
   | exact ih7 _ _ _ _ _
   | exact ih8 _ _ _ _ _ _ _
   | exact ih9 _ _ _ _ _ _
   | exact ih10 _ _ _
   | exact ih11 _ _
   | exact impl_UnionClass.mono _ _ _
   | exact laws_eqInt64S.mono _ _ _
   | exact laws_heldInt64S.mono _ _ _
   | exact laws_markInt64S.mono _ _ _
   | exact laws_toInt64S.mono _ _
   | exact spec_UnionClass.mono _ _ _
   | exact LeO.none _
   | refine LeO.ite ?_ ?_
   | refine LeO.bind ?_ (fun _ => ?_)
  ·intro y0 y1 y2 y3 y4 y5
   unfold laws_FnExactUnionClass.j6
   repeat' first
   | (with_reducible exact ih0 _ _)
   | (with_reducible exact ih1 _ _)
   | (with_reducible exact ih2 _ _ _ _ _ _ _ _ _)
   | (with_reducible exact ih3 _ _ _ _ _ _ _ _)
   | (with_reducible exact ih4 _ _ _ _ _ _ _ _)
   | (with_reducible exact ih5 _ _ _ _ _ _ _ _)
   | (with_reducible exact ih6 _ _ _ _ _ _)
   | (with_reducible exact ih7 _ _ _ _ _)
   | (with_reducible exact ih8 _ _ _ _ _ _ _)
   | (with_reducible exact ih9 _ _ _ _ _ _)
   | (with_reducible exact ih10 _ _ _)
   | (with_reducible exact ih11 _ _)
   | (with_reducible exact impl_UnionClass.mono _ _ _)
   | (with_reducible exact laws_eqInt64S.mono _ _ _)
   | (with_reducible exact laws_heldInt64S.mono _ _ _)
   | (with_reducible exact laws_markInt64S.mono _ _ _)
   | (with_reducible exact laws_toInt64S.mono _ _)
   | (with_reducible exact spec_UnionClass.mono _ _ _)
   | (with_reducible exact LeO.refl _)
   | (with_reducible exact LeO.none _)
   | (with_reducible refine LeO.ite ?_ ?_)
   | (with_reducible refine LeO.bind ?_ (fun _ => ?_))
   | exact ih0 _ _
   | exact ih1 _ _
   | exact ih2 _ _ _ _ _ _ _ _ _
   | exact ih3 _ _ _ _ _ _ _ _
   | exact ih4 _ _ _ _ _ _ _ _
   | exact ih5 _ _ _ _ _ _ _ _
   | exact ih6 _ _ _ _ _ _
   | exact ih7 _ _ _ _ _
   | exact ih8 _ _ _ _ _ _ _
   | exact ih9 _ _ _ _ _ _
   | exact ih10 _ _ _
   | exact ih11 _ _
   | exact impl_UnionClass.mono _ _ _
   | exact laws_eqInt64S.mono _ _ _
   | exact laws_heldInt64S.mono _ _ _
   | exact laws_markInt64S.mono _ _ _
   | exact laws_toInt64S.mono _ _
   | exact spec_UnionClass.mono _ _ _
   | exact LeO.none _
   | refine LeO.ite ?_ ?_
   | refine LeO.bind ?_ (fun _ => ?_)
  ·intro y0 y1 y2 y3 y4
   unfold laws_FnExactUnionClass.j7
   repeat' first
   | (with_reducible exact ih0 _ _)
   | (with_reducible exact ih1 _ _)
   | (with_reducible exact ih2 _ _ _ _ _ _ _ _ _)
   | (with_reducible exact ih3 _ _ _ _ _ _ _ _)
   | (with_reducible exact ih4 _ _ _ _ _ _ _ _)
   | (with_reducible exact ih5 _ _ _ _ _ _ _ _)
   | (with_reducible exact ih6 _ _ _ _ _ _)
   | (with_reducible exact ih7 _ _ _ _ _)
   | (with_reducible exact ih8 _ _ _ _ _ _ _)
   | (with_reducible exact ih9 _ _ _ _ _ _)
   | (with_reducible exact ih10 _ _ _)
   | (with_reducible exact ih11 _ _)
   | (with_reducible exact impl_UnionClass.mono _ _ _)
   | (with_reducible exact laws_eqInt64S.mono _ _ _)
   | (with_reducible exact laws_heldInt64S.mono _ _ _)
   | (with_reducible exact laws_markInt64S.mono _ _ _)
   | (with_reducible exact laws_toInt64S.mono _ _)
   | (with_reducible exact spec_UnionClass.mono _ _ _)
   | (with_reducible exact LeO.refl _)
   | (with_reducible exact LeO.none _)
   | (with_reducible refine LeO.ite ?_ ?_)
   | (with_reducible refine LeO.bind ?_ (fun _ => ?_))
   | exact ih0 _ _
   | exact ih1 _ _
   | exact ih2 _ _ _ _ _ _ _ _ _
   | exact ih3 _ _ _ _ _ _ _ _
   | exact ih4 _ _ _ _ _ _ _ _
   | exact ih5 _ _ _ _ _ _ _ _
   | exact ih6 _ _ _ _ _ _
   | exact ih7 _ _ _ _ _
   | exact ih8 _ _ _ _ _ _ _
   | exact ih9 _ _ _ _ _ _
   | exact ih10 _ _ _
   | exact ih11 _ _
   | exact impl_UnionClass.mono _ _ _
   | exact laws_eqInt64S.mono _ _ _
   | exact laws_heldInt64S.mono _ _ _
   | exact laws_markInt64S.mono _ _ _
   | exact laws_toInt64S.mono _ _
   | exact spec_UnionClass.mono _ _ _
   | exact LeO.none _
   | refine LeO.ite ?_ ?_
   | refine LeO.bind ?_ (fun _ => ?_)
  ·intro y0 y1 y2 y3 y4 y5 y6
   unfold laws_FnExactUnionClass.j8
   repeat' first
   | (with_reducible exact ih0 _ _)
   | (with_reducible exact ih1 _ _)
   | (with_reducible exact ih2 _ _ _ _ _ _ _ _ _)
   | (with_reducible exact ih3 _ _ _ _ _ _ _ _)
   | (with_reducible exact ih4 _ _ _ _ _ _ _ _)
   | (with_reducible exact ih5 _ _ _ _ _ _ _ _)
   | (with_reducible exact ih6 _ _ _ _ _ _)
   | (with_reducible exact ih7 _ _ _ _ _)
   | (with_reducible exact ih8 _ _ _ _ _ _ _)
   | (with_reducible exact ih9 _ _ _ _ _ _)
   | (with_reducible exact ih10 _ _ _)
   | (with_reducible exact ih11 _ _)
   | (with_reducible exact impl_UnionClass.mono _ _ _)
   | (with_reducible exact laws_eqInt64S.mono _ _ _)
   | (with_reducible exact laws_heldInt64S.mono _ _ _)
   | (with_reducible exact laws_markInt64S.mono _ _ _)
   | (with_reducible exact laws_toInt64S.mono _ _)
   | (with_reducible exact spec_UnionClass.mono _ _ _)
   | (with_reducible exact LeO.refl _)
   | (with_reducible exact LeO.none _)
   | (with_reducible refine LeO.ite ?_ ?_)
   | (with_reducible refine LeO.bind ?_ (fun _ => ?_))
   | exact ih0 _ _
   | exact ih1 _ _
   | exact ih2 _ _ _ _ _ _ _ _ _
   | exact ih3 _ _ _ _ _ _ _ _
   | exact ih4 _ _ _ _ _ _ _ _
   | exact ih5 _ _ _ _ _ _ _ _
   | exact ih6 _ _ _ _ _ _
   | exact ih7 _ _ _ _ _
   | exact ih8 _ _ _ _ _ _ _
   | exact ih9 _ _ _ _ _ _
   | exact ih10 _ _ _
   | exact ih11 _ _
   | exact impl_UnionClass.mono _ _ _
   | exact laws_eqInt64S.mono _ _ _
   | exact laws_heldInt64S.mono _ _ _
   | exact laws_markInt64S.mono _ _ _
   | exact laws_toInt64S.mono _ _
   | exact spec_UnionClass.mono _ _ _
   | exact LeO.none _
   | refine LeO.ite ?_ ?_
   | refine LeO.bind ?_ (fun _ => ?_)
  ·intro y0 y1 y2 y3 y4 y5
   unfold laws_FnExactUnionClass.j9
   repeat' first
   | (with_reducible exact ih0 _ _)
   | (with_reducible exact ih1 _ _)
   | (with_reducible exact ih2 _ _ _ _ _ _ _ _ _)
   | (with_reducible exact ih3 _ _ _ _ _ _ _ _)
   | (with_reducible exact ih4 _ _ _ _ _ _ _ _)
   | (with_reducible exact ih5 _ _ _ _ _ _ _ _)
   | (with_reducible exact ih6 _ _ _ _ _ _)
   | (with_reducible exact ih7 _ _ _ _ _)
   | (with_reducible exact ih8 _ _ _ _ _ _ _)
   | (with_reducible exact ih9 _ _ _ _ _ _)
   | (with_reducible exact ih10 _ _ _)
   | (with_reducible exact ih11 _ _)
   | (with_reducible exact impl_UnionClass.mono _ _ _)
   | (with_reducible exact laws_eqInt64S.mono _ _ _)
   | (with_reducible exact laws_heldInt64S.mono _ _ _)
   | (with_reducible exact laws_markInt64S.mono _ _ _)
   | (with_reducible exact laws_toInt64S.mono _ _)
   | (with_reducible exact spec_UnionClass.mono _ _ _)
   | (with_reducible exact LeO.refl _)
   | (with_reducible exact LeO.none _)
   | (with_reducible refine LeO.ite ?_ ?_)
   | (with_reducible refine LeO.bind ?_ (fun _ => ?_))
   | exact ih0 _ _
   | exact ih1 _ _
   | exact ih2 _ _ _ _ _ _ _ _ _
   | exact ih3 _ _ _ _ _ _ _ _
   | exact ih4 _ _ _ _ _ _ _ _
   | exact ih5 _ _ _ _ _ _ _ _
   | exact ih6 _ _ _ _ _ _
   | exact ih7 _ _ _ _ _
   | exact ih8 _ _ _ _ _ _ _
   | exact ih9 _ _ _ _ _ _
   | exact ih10 _ _ _
   | exact ih11 _ _
   | exact impl_UnionClass.mono _ _ _
   | exact laws_eqInt64S.mono _ _ _
   | exact laws_heldInt64S.mono _ _ _
   | exact laws_markInt64S.mono _ _ _
   | exact laws_toInt64S.mono _ _
   | exact spec_UnionClass.mono _ _ _
   | exact LeO.none _
   | refine LeO.ite ?_ ?_
   | refine LeO.bind ?_ (fun _ => ?_)
  ·intro y0 y1 y2
   unfold laws_FnExactUnionClass.j10
   repeat' first
   | (with_reducible exact ih0 _ _)
   | (with_reducible exact ih1 _ _)
   | (with_reducible exact ih2 _ _ _ _ _ _ _ _ _)
   | (with_reducible exact ih3 _ _ _ _ _ _ _ _)
   | (with_reducible exact ih4 _ _ _ _ _ _ _ _)
   | (with_reducible exact ih5 _ _ _ _ _ _ _ _)
   | (with_reducible exact ih6 _ _ _ _ _ _)
   | (with_reducible exact ih7 _ _ _ _ _)
   | (with_reducible exact ih8 _ _ _ _ _ _ _)
   | (with_reducible exact ih9 _ _ _ _ _ _)
   | (with_reducible exact ih10 _ _ _)
   | (with_reducible exact ih11 _ _)
   | (with_reducible exact impl_UnionClass.mono _ _ _)
   | (with_reducible exact laws_eqInt64S.mono _ _ _)
   | (with_reducible exact laws_heldInt64S.mono _ _ _)
   | (with_reducible exact laws_markInt64S.mono _ _ _)
   | (with_reducible exact laws_toInt64S.mono _ _)
   | (with_reducible exact spec_UnionClass.mono _ _ _)
   | (with_reducible exact LeO.refl _)
   | (with_reducible exact LeO.none _)
   | (with_reducible refine LeO.ite ?_ ?_)
   | (with_reducible refine LeO.bind ?_ (fun _ => ?_))
   | exact ih0 _ _
   | exact ih1 _ _
   | exact ih2 _ _ _ _ _ _ _ _ _
   | exact ih3 _ _ _ _ _ _ _ _
   | exact ih4 _ _ _ _ _ _ _ _
   | exact ih5 _ _ _ _ _ _ _ _
   | exact ih6 _ _ _ _ _ _
   | exact ih7 _ _ _ _ _
   | exact ih8 _ _ _ _ _ _ _
   | exact ih9 _ _ _ _ _ _
   | exact ih10 _ _ _
   | exact ih11 _ _
   | exact impl_UnionClass.mono _ _ _
   | exact laws_eqInt64S.mono _ _ _
   | exact laws_heldInt64S.mono _ _ _
   | exact laws_markInt64S.mono _ _ _
   | exact laws_toInt64S.mono _ _
   | exact spec_UnionClass.mono _ _ _
   | exact LeO.none _
   | refine LeO.ite ?_ ?_
   | refine LeO.bind ?_ (fun _ => ?_)
  ·intro y0 y1
   unfold laws_FnExactUnionClass.j11
   repeat' first
   | (with_reducible exact ih0 _ _)
   | (with_reducible exact ih1 _ _)
   | (with_reducible exact ih2 _ _ _ _ _ _ _ _ _)
   | (with_reducible exact ih3 _ _ _ _ _ _ _ _)
   | (with_reducible exact ih4 _ _ _ _ _ _ _ _)
   | (with_reducible exact ih5 _ _ _ _ _ _ _ _)
   | (with_reducible exact ih6 _ _ _ _ _ _)
   | (with_reducible exact ih7 _ _ _ _ _)
   | (with_reducible exact ih8 _ _ _ _ _ _ _)
   | (with_reducible exact ih9 _ _ _ _ _ _)
   | (with_reducible exact ih10 _ _ _)
   | (with_reducible exact ih11 _ _)
   | (with_reducible exact impl_UnionClass.mono _ _ _)
   | (with_reducible exact laws_eqInt64S.mono _ _ _)
   | (with_reducible exact laws_heldInt64S.mono _ _ _)
   | (with_reducible exact laws_markInt64S.mono _ _ _)
   | (with_reducible exact laws_toInt64S.mono _ _)
   | (with_reducible exact spec_UnionClass.mono _ _ _)
   | (with_reducible exact LeO.refl _)
   | (with_reducible exact LeO.none _)
   | (with_reducible refine LeO.ite ?_ ?_)
   | (with_reducible refine LeO.bind ?_ (fun _ => ?_))
   | exact ih0 _ _
   | exact ih1 _ _
   | exact ih2 _ _ _ _ _ _ _ _ _
   | exact ih3 _ _ _ _ _ _ _ _
   | exact ih4 _ _ _ _ _ _ _ _
   | exact ih5 _ _ _ _ _ _ _ _
   | exact ih6 _ _ _ _ _ _
   | exact ih7 _ _ _ _ _
   | exact ih8 _ _ _ _ _ _ _
   | exact ih9 _ _ _ _ _ _
   | exact ih10 _ _ _
   | exact ih11 _ _
   | exact impl_UnionClass.mono _ _ _
   | exact laws_eqInt64S.mono _ _ _
   | exact laws_heldInt64S.mono _ _ _
   | exact laws_markInt64S.mono _ _ _
   | exact laws_toInt64S.mono _ _
   | exact spec_UnionClass.mono _ _ _
   | exact LeO.none _
   | refine LeO.ite ?_ ?_
   | refine LeO.bind ?_ (fun _ => ?_)
theorem laws_FnExactUnionClass.mono : ∀ a0 a1 k, LeO (laws_FnExactUnionClass.f k a0 a1) (laws_FnExactUnionClass.f (k + 1) a0 a1) := by
 intro a0 a1 k
 obtain ⟨ih0, ih1, ih2, ih3, ih4, ih5, ih6, ih7, ih8, ih9, ih10, ih11⟩ := laws_FnExactUnionClass.mono_l k
 unfold laws_FnExactUnionClass.f
 repeat' first
   | (with_reducible exact ih0 _ _)
   | (with_reducible exact ih1 _ _)
   | (with_reducible exact ih2 _ _ _ _ _ _ _ _ _)
   | (with_reducible exact ih3 _ _ _ _ _ _ _ _)
   | (with_reducible exact ih4 _ _ _ _ _ _ _ _)
   | (with_reducible exact ih5 _ _ _ _ _ _ _ _)
   | (with_reducible exact ih6 _ _ _ _ _ _)
   | (with_reducible exact ih7 _ _ _ _ _)
   | (with_reducible exact ih8 _ _ _ _ _ _ _)
   | (with_reducible exact ih9 _ _ _ _ _ _)
   | (with_reducible exact ih10 _ _ _)
   | (with_reducible exact ih11 _ _)
   | (with_reducible exact impl_UnionClass.mono _ _ _)
   | (with_reducible exact laws_eqInt64S.mono _ _ _)
   | (with_reducible exact laws_heldInt64S.mono _ _ _)
   | (with_reducible exact laws_markInt64S.mono _ _ _)
   | (with_reducible exact laws_toInt64S.mono _ _)
   | (with_reducible exact spec_UnionClass.mono _ _ _)
   | (with_reducible exact LeO.refl _)
   | (with_reducible exact LeO.none _)
   | (with_reducible refine LeO.ite ?_ ?_)
   | (with_reducible refine LeO.bind ?_ (fun _ => ?_))
   | exact ih0 _ _
   | exact ih1 _ _
   | exact ih2 _ _ _ _ _ _ _ _ _
   | exact ih3 _ _ _ _ _ _ _ _
   | exact ih4 _ _ _ _ _ _ _ _
   | exact ih5 _ _ _ _ _ _ _ _
   | exact ih6 _ _ _ _ _ _
   | exact ih7 _ _ _ _ _
   | exact ih8 _ _ _ _ _ _ _
   | exact ih9 _ _ _ _ _ _
   | exact ih10 _ _ _
   | exact ih11 _ _
   | exact impl_UnionClass.mono _ _ _
   | exact laws_eqInt64S.mono _ _ _
   | exact laws_heldInt64S.mono _ _ _
   | exact laws_markInt64S.mono _ _ _
   | exact laws_toInt64S.mono _ _
   | exact spec_UnionClass.mono _ _ _
   | exact LeO.none _
   | refine LeO.ite ?_ ?_
   | refine LeO.bind ?_ (fun _ => ?_)
set_option maxHeartbeats 8000000 in
set_option maxRecDepth 100000 in
theorem laws_FnExactUnionClass.calls (k : Nat) (A0 : Option Addr) (c0 : Nat) (l0 : List Int) (A1 : Option Addr) (c1 : Nat) (l1 : List Int) (r : Bool) (w : World) (hr0 : Kd.C (Kd.int .i64) w A0 l0.length l0) (hc0 : l0.length ≤ c0) (hr1 : Kd.C (Kd.int .i64) w A1 l1.length l1) (hc1 : l1.length ≤ c1) (h : laws_FnExactUnionClass.f k l0 l1 = some r) :
  Calls Try.prog 5 #[.slice A0 l0.length c0, .slice A1 l1.length c1] w fun e w' => e = .returned (.bool r) ∧ Below w.heap.size w w' := by
 have HR0 := aM hr0
 have HC0 := aM hc0
 clear hr0 hc0
 have HR1 := aM hr1
 have HC1 := aM hc1
 clear hr1 hc1
 have HB := aM (Below.refl w.heap.size w)
 have H : (if (l0.length : Int) > 1048576 then (some true) else (laws_FnExactUnionClass.j0 k l0 l1)) = some r := h
 clear h
 have HC3 := aM H
 clear H
 go_enter Try.func5, Try.ntmps5
 go_upto_if 18 with (fail)
 go_cut [] (fun wc => ∃ (kq : Nat), Aside0 (laws_FnExactUnionClass.j0 kq l0 l1 = some r) ∧ Aside0 (kq ≤ k) ∧ Aside0 (Below w.heap.size w wc))
 case first =>
  have H := HC3.out
  clear HC3
  by_cases c4 : (l0.length : Int) > 1048576
  ·rw [if_pos c4] at H
   have c4b0 : decide (1048576 < (l0.length : Int)) = true := decide_eq_true c4
   have c4b1 : decide (1048576 < l0.length) = true := decide_eq_true (by omega)
   clear c4
   (first | rw [c4b0] | (simp only [i64_w, i32_w]; rw [c4b0]) | rw [c4b1] | rw [c4b2] | rw [c4b3] | rw [c4b4] | skip)
   obtain rfl := Option.some.inj H
   go_wp2
   go_ret
   exact ⟨eQ, bQ⟩
  ·rw [if_neg c4] at H
   have c4b0 : decide (1048576 < (l0.length : Int)) = false := decide_eq_false c4
   have c4b1 : decide (1048576 < l0.length) = false := decide_eq_false (by omega)
   clear c4
   (first | rw [c4b0] | (simp only [i64_w, i32_w]; rw [c4b0]) | rw [c4b1] | rw [c4b2] | rw [c4b3] | rw [c4b4] | skip)
   have H' := aM H
   clear H
   go_wp2
   go_meet
   case rel => exact ⟨_, H', ⟨by first | omega | exact Nat.le_refl _⟩, ⟨bQ⟩⟩
 case rest =>
  clear HC3
  try clear c1
  try clear p2
  try clear c4
  try clear c4b0
  try clear c4b1
  try clear c4b2
  obtain ⟨kq, HA, HJ2, HB⟩ := hcut
  cases kq with
  | zero => exact absurd HA.out (by simp [laws_FnExactUnionClass.j0])
  | succ kj2 =>
   have H := HA.out
   clear HA
   simp only [laws_FnExactUnionClass.j0] at H
   have HC5 := aM H
   clear H
   go_upto_if 21 with (fail)
   go_cut [] (fun wc => ∃ (kq : Nat), Aside0 (laws_FnExactUnionClass.j1 kq l0 l1 = some r) ∧ Aside0 (kq ≤ kj2) ∧ Aside0 (Below w.heap.size w wc))
   case first =>
    have H := HC5.out
    clear HC5
    by_cases c6 : (l1.length : Int) > 1048576
    ·rw [if_pos c6] at H
     have c6b0 : decide (1048576 < (l1.length : Int)) = true := decide_eq_true c6
     have c6b1 : decide (1048576 < l1.length) = true := decide_eq_true (by omega)
     clear c6
     (first | rw [c6b0] | (simp only [i64_w, i32_w]; rw [c6b0]) | rw [c6b1] | rw [c6b2] | rw [c6b3] | rw [c6b4] | skip)
     obtain rfl := Option.some.inj H
     go_wp2
     go_ret
     exact ⟨eQ, bQ⟩
    ·rw [if_neg c6] at H
     have c6b0 : decide (1048576 < (l1.length : Int)) = false := decide_eq_false c6
     have c6b1 : decide (1048576 < l1.length) = false := decide_eq_false (by omega)
     clear c6
     (first | rw [c6b0] | (simp only [i64_w, i32_w]; rw [c6b0]) | rw [c6b1] | rw [c6b2] | rw [c6b3] | rw [c6b4] | skip)
     have H' := aM H
     clear H
     go_wp2
     go_meet
     case rel => exact ⟨_, H', ⟨by have := HJ2.out; first | omega | exact Nat.le_refl _⟩, ⟨bQ⟩⟩
   case rest =>
    clear HC5
    try clear c1
    try clear p2
    try clear c4
    try clear c4b0
    try clear c4b1
    try clear c4b2
    try clear c5
    try clear c6
    try clear c6b0
    try clear c6b1
    try clear c6b2
    try clear p2
    obtain ⟨kq, HA, HJ4, HB⟩ := hcut
    cases kq with
    | zero => exact absurd HA.out (by simp [laws_FnExactUnionClass.j1])
    | succ kj4 =>
     have H := HA.out
     clear HA
     simp only [laws_FnExactUnionClass.j1] at H
     replace H := Option.bind_eq_some_iff.mp H
     obtain ⟨t289, A70, H⟩ := H
     replace H : ((laws_toInt64S.f kj4 l1).bind fun t292 => ((spec_UnionClass.f kj4 t289 t292).bind fun bt295 => ((laws_toInt64S.f kj4 l0).bind fun t299 => ((laws_toInt64S.f kj4 l1).bind fun t302 => ((impl_UnionClass.f kj4 t299 t302).bind fun bt305 => ((laws_eqInt64S.f kj4 bt305.1 bt295.1).bind fun t309 => (if t309 = true then (laws_FnExactUnionClass.j2 kj4 l0 l1 bt295.1 bt295.2 t299 t302 bt305.1 bt305.2 (bt305.2 != bt295.2)) else (laws_FnExactUnionClass.j2 kj4 l0 l1 bt295.1 bt295.2 t299 t302 bt305.1 bt305.2 true)))))))) = some r := H
     have A7 := aM A70
     clear A70
     replace H := Option.bind_eq_some_iff.mp H
     obtain ⟨t292, A80, H⟩ := H
     replace H : ((spec_UnionClass.f kj4 t289 t292).bind fun bt295 => ((laws_toInt64S.f kj4 l0).bind fun t299 => ((laws_toInt64S.f kj4 l1).bind fun t302 => ((impl_UnionClass.f kj4 t299 t302).bind fun bt305 => ((laws_eqInt64S.f kj4 bt305.1 bt295.1).bind fun t309 => (if t309 = true then (laws_FnExactUnionClass.j2 kj4 l0 l1 bt295.1 bt295.2 t299 t302 bt305.1 bt305.2 (bt305.2 != bt295.2)) else (laws_FnExactUnionClass.j2 kj4 l0 l1 bt295.1 bt295.2 t299 t302 bt305.1 bt305.2 true))))))) = some r := H
     have A8 := aM A80
     clear A80
     replace H := Option.bind_eq_some_iff.mp H
     obtain ⟨⟨t295, t296⟩, A90, H⟩ := H
     replace H : ((laws_toInt64S.f kj4 l0).bind fun t299 => ((laws_toInt64S.f kj4 l1).bind fun t302 => ((impl_UnionClass.f kj4 t299 t302).bind fun bt305 => ((laws_eqInt64S.f kj4 bt305.1 t295).bind fun t309 => (if t309 = true then (laws_FnExactUnionClass.j2 kj4 l0 l1 t295 t296 t299 t302 bt305.1 bt305.2 (bt305.2 != t296)) else (laws_FnExactUnionClass.j2 kj4 l0 l1 t295 t296 t299 t302 bt305.1 bt305.2 true)))))) = some r := H
     have A9 := aM A90
     clear A90
     replace H := Option.bind_eq_some_iff.mp H
     obtain ⟨t299, A100, H⟩ := H
     replace H : ((laws_toInt64S.f kj4 l1).bind fun t302 => ((impl_UnionClass.f kj4 t299 t302).bind fun bt305 => ((laws_eqInt64S.f kj4 bt305.1 t295).bind fun t309 => (if t309 = true then (laws_FnExactUnionClass.j2 kj4 l0 l1 t295 t296 t299 t302 bt305.1 bt305.2 (bt305.2 != t296)) else (laws_FnExactUnionClass.j2 kj4 l0 l1 t295 t296 t299 t302 bt305.1 bt305.2 true))))) = some r := H
     have A10 := aM A100
     clear A100
     replace H := Option.bind_eq_some_iff.mp H
     obtain ⟨t302, A110, H⟩ := H
     replace H : ((impl_UnionClass.f kj4 t299 t302).bind fun bt305 => ((laws_eqInt64S.f kj4 bt305.1 t295).bind fun t309 => (if t309 = true then (laws_FnExactUnionClass.j2 kj4 l0 l1 t295 t296 t299 t302 bt305.1 bt305.2 (bt305.2 != t296)) else (laws_FnExactUnionClass.j2 kj4 l0 l1 t295 t296 t299 t302 bt305.1 bt305.2 true)))) = some r := H
     have A11 := aM A110
     clear A110
     replace H := Option.bind_eq_some_iff.mp H
     obtain ⟨⟨t305, t308⟩, A120, H⟩ := H
     replace H : ((laws_eqInt64S.f kj4 t305 t295).bind fun t309 => (if t309 = true then (laws_FnExactUnionClass.j2 kj4 l0 l1 t295 t296 t299 t302 t305 t308 (t308 != t296)) else (laws_FnExactUnionClass.j2 kj4 l0 l1 t295 t296 t299 t302 t305 t308 true))) = some r := H
     have A12 := aM A120
     clear A120
     have HC13 := aM H
     clear H
     go_upto_region 9 with (first | ((with_reducible refine gate_callee (f := 13) rfl ?_); refine goesL_ (some 24) rfl rfl Try.func13 (by kernel_rfl) rfl #[.slice A0 l0.length c0] rfl gQ ?_; (with_reducible refine (laws_toInt64S.calls kj4 _ _ l0 t289 _ ?side1 ?side2 A7.out).mono ?_); (case side1 => exact cQ HR0.out); (case side2 => exact HC0.out); rintro e w14 ⟨v290, rfl, ho0, hb⟩; refine ⟨_, rfl, ?_⟩; have n0_ := aM (Kd.R_lower ho0 (below_size bQ)); have n1_ := aM (below_step bQ hb); clear HB; have HO291 := n0_; have HB := n1_; clear n0_ n1_; (try clear hb); (try clear hb2); (try clear hk); (try clear hi); (try clear ho0)) | ((with_reducible refine gate_callee (f := 13) rfl ?_); refine goesL_ (some 26) rfl rfl Try.func13 (by kernel_rfl) rfl #[.slice A1 l1.length c1] rfl gQ ?_; (with_reducible refine (laws_toInt64S.calls kj4 _ _ l1 t292 _ ?side1 ?side2 A8.out).mono ?_); (case side1 => exact cQ HR1.out); (case side2 => exact HC1.out); rintro e w15 ⟨v293, rfl, ho0, hb⟩; refine ⟨_, rfl, ?_⟩; have n0_ := aM (Kd.R_elder' (by (with_reducible repeat (first | apply rA | apply rN | apply rD)); exact HO291.out) (Kd.R_base ho0) hb); have n1_ := aM (Kd.R_lower (Kd.R_new' ho0 (Kd.R_lt (by (with_reducible repeat (first | apply rA | apply rN | apply rD)); exact HO291.out))) (below_size bQ)); have n2_ := aM (below_step bQ hb); clear HO291; clear HB; have HO291 := n0_; have HO294 := n1_; have HB := n2_; clear n0_ n1_ n2_; (try clear hb); (try clear hb2); (try clear hk); (try clear hi); (try clear ho0); obtain ⟨Ao16, co16, eo16⟩ := Kd.R_slice HO291.out; subst eo16; obtain ⟨Ao17, co17, eo17⟩ := Kd.R_slice HO294.out; subst eo17) | ((with_reducible refine gate_callee (f := 20) rfl ?_); refine goesL_ (some 27) rfl rfl Try.func20 (by kernel_rfl) rfl #[.slice Ao16 t289.length co16, .slice Ao17 t292.length co17] rfl gQ ?_; (with_reducible refine (spec_UnionClass.calls kj4 _ _ t289 _ _ t292 t295 t296 _ ?side1 ?side2 ?side3 ?side4 A9.out).mono ?_); (case side1 => repeat (first | exact (Kd.R_reads' HO291.out).2.2 | (with_reducible first | refine cA ?_ _ | refine cN ?_ _ | refine cD ?_))); (case side2 => exact (Kd.R_reads' HO291.out).2.1); (case side3 => repeat (first | exact (Kd.R_reads' HO294.out).2.2 | (with_reducible first | refine cA ?_ _ | refine cN ?_ _ | refine cD ?_))); (case side4 => exact (Kd.R_reads' HO294.out).2.1); rintro e w18 ⟨v297, rfl, ho0, hb⟩; refine ⟨_, rfl, ?_⟩; have n0_ := aM (Kd.R_elder' (by (with_reducible repeat (first | apply rA | apply rN | apply rD)); exact HO291.out) (Kd.R_base ho0) hb); have n1_ := aM (Kd.R_elder' (by (with_reducible repeat (first | apply rA | apply rN | apply rD)); exact HO294.out) (Kd.R_base ho0) hb); have n2_ := aM (Kd.R_lower (Kd.R_new' (Kd.R_new' ho0 (Kd.R_lt (by (with_reducible repeat (first | apply rA | apply rN | apply rD)); exact HO291.out))) (Kd.R_lt (by (with_reducible repeat (first | apply rA | apply rN | apply rD)); exact HO294.out))) (below_size bQ)); have n3_ := aM (below_step bQ hb); clear HO291; clear HO294; clear HB; have HO291 := n0_; have HO294 := n1_; have HO298 := n2_; have HB := n3_; clear n0_ n1_ n2_ n3_; (try clear hb); (try clear hb2); (try clear hk); (try clear hi); (try clear ho0)) | ((with_reducible refine gate_callee (f := 13) rfl ?_); refine goesL_ (some 31) rfl rfl Try.func13 (by kernel_rfl) rfl #[.slice A0 l0.length c0] rfl gQ ?_; (with_reducible refine (laws_toInt64S.calls kj4 _ _ l0 t299 _ ?side1 ?side2 A10.out).mono ?_); (case side1 => exact cQ HR0.out); (case side2 => exact HC0.out); rintro e w19 ⟨v300, rfl, ho0, hb⟩; refine ⟨_, rfl, ?_⟩; have n0_ := aM (Kd.R_elder' (by (with_reducible repeat (first | apply rA | apply rN | apply rD)); exact HO291.out) (Kd.R_base ho0) hb); have n1_ := aM (Kd.R_elder' (by (with_reducible repeat (first | apply rA | apply rN | apply rD)); exact HO294.out) (Kd.R_base ho0) hb); have n2_ := aM (Kd.R_elder' (by (with_reducible repeat (first | apply rA | apply rN | apply rD)); exact HO298.out) (Kd.R_base ho0) hb); have n3_ := aM (Kd.R_lower (Kd.R_new' (Kd.R_new' (Kd.R_new' ho0 (Kd.R_lt (by (with_reducible repeat (first | apply rA | apply rN | apply rD)); exact HO291.out))) (Kd.R_lt (by (with_reducible repeat (first | apply rA | apply rN | apply rD)); exact HO294.out))) (Kd.R_lt (by (with_reducible repeat (first | apply rA | apply rN | apply rD)); exact HO298.out))) (below_size bQ)); have n4_ := aM (below_step bQ hb); clear HO291; clear HO294; clear HO298; clear HB; have HO291 := n0_; have HO294 := n1_; have HO298 := n2_; have HO301 := n3_; have HB := n4_; clear n0_ n1_ n2_ n3_ n4_; (try clear hb); (try clear hb2); (try clear hk); (try clear hi); (try clear ho0)) | ((with_reducible refine gate_callee (f := 13) rfl ?_); refine goesL_ (some 33) rfl rfl Try.func13 (by kernel_rfl) rfl #[.slice A1 l1.length c1] rfl gQ ?_; (with_reducible refine (laws_toInt64S.calls kj4 _ _ l1 t302 _ ?side1 ?side2 A11.out).mono ?_); (case side1 => exact cQ HR1.out); (case side2 => exact HC1.out); rintro e w20 ⟨v303, rfl, ho0, hb⟩; refine ⟨_, rfl, ?_⟩; have n0_ := aM (Kd.R_elder' (by (with_reducible repeat (first | apply rA | apply rN | apply rD)); exact HO291.out) (Kd.R_base ho0) hb); have n1_ := aM (Kd.R_elder' (by (with_reducible repeat (first | apply rA | apply rN | apply rD)); exact HO294.out) (Kd.R_base ho0) hb); have n2_ := aM (Kd.R_elder' (by (with_reducible repeat (first | apply rA | apply rN | apply rD)); exact HO298.out) (Kd.R_base ho0) hb); have n3_ := aM (Kd.R_elder' (by (with_reducible repeat (first | apply rA | apply rN | apply rD)); exact HO301.out) (Kd.R_base ho0) hb); have n4_ := aM (Kd.R_lower (Kd.R_new' (Kd.R_new' (Kd.R_new' (Kd.R_new' ho0 (Kd.R_lt (by (with_reducible repeat (first | apply rA | apply rN | apply rD)); exact HO291.out))) (Kd.R_lt (by (with_reducible repeat (first | apply rA | apply rN | apply rD)); exact HO294.out))) (Kd.R_lt (by (with_reducible repeat (first | apply rA | apply rN | apply rD)); exact HO298.out))) (Kd.R_lt (by (with_reducible repeat (first | apply rA | apply rN | apply rD)); exact HO301.out))) (below_size bQ)); have n5_ := aM (below_step bQ hb); clear HO291; clear HO294; clear HO298; clear HO301; clear HB; have HO291 := n0_; have HO294 := n1_; have HO298 := n2_; have HO301 := n3_; have HO304 := n4_; have HB := n5_; clear n0_ n1_ n2_ n3_ n4_ n5_; (try clear hb); (try clear hb2); (try clear hk); (try clear hi); (try clear ho0); obtain ⟨Ao21, co21, eo21⟩ := Kd.R_slice HO301.out; subst eo21; obtain ⟨Ao22, co22, eo22⟩ := Kd.R_slice HO304.out; subst eo22) | ((with_reducible refine gate_callee (f := 21) rfl ?_); refine goesL_ (some 37) rfl rfl Try.func21 (by kernel_rfl) rfl #[.slice Ao21 t299.length co21, .slice Ao22 t302.length co22] rfl gQ ?_; (with_reducible refine (impl_UnionClass.calls kj4 (fun k_ => some k_ = (.slice Ao21 t299.length co21 : Value).ownBlock) _ _ t299 (fun k_ => some k_ = (.slice Ao22 t302.length co22 : Value).ownBlock) _ _ t302 t305 t308 _ ?side1 ?side2 A12.out).mono ?_); (case side1 => exact Kd.R_V (Kd.R_tight rfl (HO301.out))); (case side2 => exact Kd.R_V (Kd.R_tight rfl (HO304.out))); rintro e w23 ⟨v306, rfl, ho0, hb⟩; refine ⟨_, rfl, ?_⟩; have n0_ := aM (Kd.R_elder' (by (with_reducible repeat (first | apply rA | apply rN | apply rD)); exact HO291.out) (Kd.R_base ho0) hb); have n1_ := aM (Kd.R_elder' (by (with_reducible repeat (first | apply rA | apply rN | apply rD)); exact HO294.out) (Kd.R_base ho0) hb); have n2_ := aM (Kd.R_elder' (by (with_reducible repeat (first | apply rA | apply rN | apply rD)); exact HO298.out) (Kd.R_base ho0) hb); have n3_ := aM (Kd.R_elder' (by (with_reducible repeat (first | apply rA | apply rN | apply rD)); exact HO301.out) (Kd.R_base ho0) hb); have n4_ := aM (Kd.R_elder' (by (with_reducible repeat (first | apply rA | apply rN | apply rD)); exact HO304.out) (Kd.R_base ho0) hb); have n5_ := aM (Kd.R_lower (Kd.R_new' (Kd.R_new' (Kd.R_new' (Kd.R_new' (Kd.R_new' (Kd.R_mono (ok' := fun k_ => True) ho0 (fun _ hk_ => trivial)) (Kd.R_lt (by (with_reducible repeat (first | apply rA | apply rN | apply rD)); exact HO291.out))) (Kd.R_lt (by (with_reducible repeat (first | apply rA | apply rN | apply rD)); exact HO294.out))) (Kd.R_lt (by (with_reducible repeat (first | apply rA | apply rN | apply rD)); exact HO298.out))) (Kd.R_lt (by (with_reducible repeat (first | apply rA | apply rN | apply rD)); exact HO301.out))) (Kd.R_lt (by (with_reducible repeat (first | apply rA | apply rN | apply rD)); exact HO304.out))) (below_size bQ)); have n6_ := aM (below_step bQ hb); clear HO291; clear HO294; clear HO298; clear HO301; clear HO304; clear HB; have HO291 := n0_; have HO294 := n1_; have HO298 := n2_; have HO301 := n3_; have HO304 := n4_; have HO307 := n5_; have HB := n6_; clear n0_ n1_ n2_ n3_ n4_ n5_ n6_; (try clear hb); (try clear hb2); (try clear hk); (try clear hi); (try clear ho0)))
     (try simp only [Act.put, sI, sZ, sS])
     go_cut [48] (fun v48 wc => ∃ (kq : Nat) (x48_12 : Bool), v48 = .bool x48_12 ∧ Aside0 (laws_FnExactUnionClass.j2 kq l0 l1 t295 t296 t299 t302 t305 t308 x48_12 = some r) ∧ Aside0 (kq ≤ kj4) ∧ Aside0 (Kd.R (Kd.int .i64) 2 wc w.heap.size (fun k_ => some k_ ≠ ((.slice Ao21 t299.length co21) : Value).ownBlock ∧ some k_ ≠ ((.slice Ao22 t302.length co22) : Value).ownBlock ∧ some k_ ≠ (v306 : Value).ownBlock) v297 t295) ∧ Aside0 (Kd.R (Kd.int .i64) 2 wc w.heap.size (fun k_ => some k_ ≠ (v297 : Value).ownBlock ∧ some k_ ≠ ((.slice Ao22 t302.length co22) : Value).ownBlock ∧ some k_ ≠ (v306 : Value).ownBlock) (.slice Ao21 t299.length co21) t299) ∧ Aside0 (Kd.R (Kd.int .i64) 2 wc w.heap.size (fun k_ => some k_ ≠ (v297 : Value).ownBlock ∧ some k_ ≠ ((.slice Ao21 t299.length co21) : Value).ownBlock ∧ some k_ ≠ (v306 : Value).ownBlock) (.slice Ao22 t302.length co22) t302) ∧ Aside0 (Kd.R (Kd.int .i64) 2 wc w.heap.size (fun k_ => some k_ ≠ (v297 : Value).ownBlock ∧ some k_ ≠ ((.slice Ao21 t299.length co21) : Value).ownBlock ∧ some k_ ≠ ((.slice Ao22 t302.length co22) : Value).ownBlock) v306 t305) ∧ Aside0 (Below w.heap.size w wc))
     case first =>
      have H := HC13.out
      clear HC13
      replace H := Option.bind_eq_some_iff.mp H
      obtain ⟨t309, A240, H⟩ := H
      replace H : (if t309 = true then (laws_FnExactUnionClass.j2 kj4 l0 l1 t295 t296 t299 t302 t305 t308 (t308 != t296)) else (laws_FnExactUnionClass.j2 kj4 l0 l1 t295 t296 t299 t302 t305 t308 true)) = some r := H
      have A24 := aM A240
      clear A240
      by_cases c25 : t309 = true
      ·subst c25
       have H1 : (laws_FnExactUnionClass.j2 kj4 l0 l1 t295 t296 t299 t302 t305 t308 (t308 != t296)) = some r := by rw [if_pos rfl] at H; exact H
       clear H
       have H := H1
       clear H1
       have H' := aM H
       clear H
       obtain ⟨Ao26, co26, eo26⟩ := Kd.R_slice HO307.out
       subst eo26
       obtain ⟨Ao27, co27, eo27⟩ := Kd.R_slice HO298.out
       subst eo27
       go_wp2_with (first | ((with_reducible refine gate_callee (f := 15) rfl ?_); refine goesL_ (some 42) rfl rfl Try.func15 (by kernel_rfl) rfl #[.slice Ao26 t305.length co26, .slice Ao27 t295.length co27] rfl gQ ?_; (with_reducible refine (laws_eqInt64S.calls kj4 _ _ t305 _ _ t295 true _ ?side1 ?side2 ?side3 ?side4 A24.out).mono ?_); (case side1 => repeat (first | exact (Kd.R_reads' HO307.out).2.2 | (with_reducible first | refine cA ?_ _ | refine cN ?_ _ | refine cD ?_))); (case side2 => exact (Kd.R_reads' HO307.out).2.1); (case side3 => repeat (first | exact (Kd.R_reads' HO298.out).2.2 | (with_reducible first | refine cA ?_ _ | refine cN ?_ _ | refine cD ?_))); (case side4 => exact (Kd.R_reads' HO298.out).2.1); rintro e w' ⟨rfl, ⟨nd, rfl⟩⟩; refine ⟨_, rfl, ?_⟩))
       go_meet
       case rel => exact ⟨_, ((t308 != t296)), rQ, H', ⟨by have := HJ2.out; have := HJ4.out; first | omega | exact Nat.le_refl _⟩, ⟨by (with_reducible repeat (first | apply rA | apply rN | apply rD)); exact Kd.R_mono HO298.out (fun _ hk => ⟨hk.1.1.2, ⟨hk.1.2, hk.2⟩⟩)⟩, ⟨by (with_reducible repeat (first | apply rA | apply rN | apply rD)); exact Kd.R_mono HO301.out (fun _ hk => ⟨hk.1.1.2, ⟨hk.1.2, hk.2⟩⟩)⟩, ⟨by (with_reducible repeat (first | apply rA | apply rN | apply rD)); exact Kd.R_mono HO304.out (fun _ hk => ⟨hk.1.1.2, ⟨hk.1.2, hk.2⟩⟩)⟩, ⟨by (with_reducible repeat (first | apply rA | apply rN | apply rD)); exact Kd.R_mono HO307.out (fun _ hk => ⟨hk.1.1.2, ⟨hk.1.2, hk.2⟩⟩)⟩, ⟨bQ⟩⟩
      ·replace c25 := Bool.eq_false_iff.mpr c25
       subst c25
       have H1 : (laws_FnExactUnionClass.j2 kj4 l0 l1 t295 t296 t299 t302 t305 t308 true) = some r := by rw [if_neg (show ¬ (false = true) by decide)] at H; exact H
       clear H
       have H := H1
       clear H1
       have H' := aM H
       clear H
       obtain ⟨Ao28, co28, eo28⟩ := Kd.R_slice HO307.out
       subst eo28
       obtain ⟨Ao29, co29, eo29⟩ := Kd.R_slice HO298.out
       subst eo29
       go_wp2_with (first | ((with_reducible refine gate_callee (f := 15) rfl ?_); refine goesL_ (some 42) rfl rfl Try.func15 (by kernel_rfl) rfl #[.slice Ao28 t305.length co28, .slice Ao29 t295.length co29] rfl gQ ?_; (with_reducible refine (laws_eqInt64S.calls kj4 _ _ t305 _ _ t295 false _ ?side1 ?side2 ?side3 ?side4 A24.out).mono ?_); (case side1 => repeat (first | exact (Kd.R_reads' HO307.out).2.2 | (with_reducible first | refine cA ?_ _ | refine cN ?_ _ | refine cD ?_))); (case side2 => exact (Kd.R_reads' HO307.out).2.1); (case side3 => repeat (first | exact (Kd.R_reads' HO298.out).2.2 | (with_reducible first | refine cA ?_ _ | refine cN ?_ _ | refine cD ?_))); (case side4 => exact (Kd.R_reads' HO298.out).2.1); rintro e w' ⟨rfl, ⟨nd, rfl⟩⟩; refine ⟨_, rfl, ?_⟩))
       go_meet
       case rel => exact ⟨_, (true), rQ, H', ⟨by have := HJ2.out; have := HJ4.out; first | omega | exact Nat.le_refl _⟩, ⟨by (with_reducible repeat (first | apply rA | apply rN | apply rD)); exact Kd.R_mono HO298.out (fun _ hk => ⟨hk.1.1.2, ⟨hk.1.2, hk.2⟩⟩)⟩, ⟨by (with_reducible repeat (first | apply rA | apply rN | apply rD)); exact Kd.R_mono HO301.out (fun _ hk => ⟨hk.1.1.2, ⟨hk.1.2, hk.2⟩⟩)⟩, ⟨by (with_reducible repeat (first | apply rA | apply rN | apply rD)); exact Kd.R_mono HO304.out (fun _ hk => ⟨hk.1.1.2, ⟨hk.1.2, hk.2⟩⟩)⟩, ⟨by (with_reducible repeat (first | apply rA | apply rN | apply rD)); exact Kd.R_mono HO307.out (fun _ hk => ⟨hk.1.1.2, ⟨hk.1.2, hk.2⟩⟩)⟩, ⟨bQ⟩⟩
     case rest =>
      clear HC13
      try clear c1
      try clear c2
      try clear p2
      try clear c4
      try clear c4b0
      try clear c4b1
      try clear c4b2
      try clear c5
      try clear c6
      try clear c6b0
      try clear c6b1
      try clear c6b2
      try clear c13
      try clear c15
      try clear c20
      try clear c21
      try clear c25
      try clear p2
      obtain ⟨kq, x48_12, rfl, HA, HJ12, HO_5, HO_7, HO_8, HO_9, HB⟩ := hcut
      cases kq with
      | zero => exact absurd HA.out (by simp [laws_FnExactUnionClass.j2])
      | succ kj12 =>
       have H := HA.out
       clear HA
       simp only [laws_FnExactUnionClass.j2] at H
       have HC30 := aM H
       clear H
       go_upto_if 48 with (fail)
       go_cut [] (fun wc => ∃ (kq : Nat), Aside0 (laws_FnExactUnionClass.j3 kq l0 l1 t295 t296 t299 t302 t305 t308 = some r) ∧ Aside0 (kq ≤ kj12) ∧ Aside0 (Kd.R (Kd.int .i64) 2 wc w.heap.size (fun k_ => some k_ ≠ ((.slice Ao21 t299.length co21) : Value).ownBlock ∧ some k_ ≠ ((.slice Ao22 t302.length co22) : Value).ownBlock ∧ some k_ ≠ (v306 : Value).ownBlock) v297 t295) ∧ Aside0 (Kd.R (Kd.int .i64) 2 wc w.heap.size (fun k_ => some k_ ≠ (v297 : Value).ownBlock ∧ some k_ ≠ ((.slice Ao22 t302.length co22) : Value).ownBlock ∧ some k_ ≠ (v306 : Value).ownBlock) (.slice Ao21 t299.length co21) t299) ∧ Aside0 (Kd.R (Kd.int .i64) 2 wc w.heap.size (fun k_ => some k_ ≠ (v297 : Value).ownBlock ∧ some k_ ≠ ((.slice Ao21 t299.length co21) : Value).ownBlock ∧ some k_ ≠ (v306 : Value).ownBlock) (.slice Ao22 t302.length co22) t302) ∧ Aside0 (Kd.R (Kd.int .i64) 2 wc w.heap.size (fun k_ => some k_ ≠ (v297 : Value).ownBlock ∧ some k_ ≠ ((.slice Ao21 t299.length co21) : Value).ownBlock ∧ some k_ ≠ ((.slice Ao22 t302.length co22) : Value).ownBlock) v306 t305) ∧ Aside0 (Below w.heap.size w wc))
       case first =>
        have H := HC30.out
        clear HC30
        by_cases c31 : x48_12 = true
        ·subst c31
         have H1 : (some false) = some r := by rw [if_pos rfl] at H; exact H
         clear H
         have H := H1
         clear H1
         obtain rfl := Option.some.inj H
         go_wp2
         go_ret
         exact ⟨eQ, bQ⟩
        ·replace c31 := Bool.eq_false_iff.mpr c31
         subst c31
         have H1 : (laws_FnExactUnionClass.j3 kj12 l0 l1 t295 t296 t299 t302 t305 t308) = some r := by rw [if_neg (show ¬ (false = true) by decide)] at H; exact H
         clear H
         have H := H1
         clear H1
         have H' := aM H
         clear H
         go_wp2
         go_meet
         case rel => exact ⟨_, H', ⟨by have := HJ2.out; have := HJ4.out; have := HJ12.out; first | omega | exact Nat.le_refl _⟩, ⟨by (with_reducible repeat (first | apply rA | apply rN | apply rD)); exact HO_5.out⟩, ⟨by (with_reducible repeat (first | apply rA | apply rN | apply rD)); exact HO_7.out⟩, ⟨by (with_reducible repeat (first | apply rA | apply rN | apply rD)); exact HO_8.out⟩, ⟨by (with_reducible repeat (first | apply rA | apply rN | apply rD)); exact HO_9.out⟩, ⟨bQ⟩⟩
       case rest =>
        clear HC30
        try clear c1
        try clear c2
        try clear p2
        try clear c3
        try clear c4
        try clear c4b0
        try clear c4b1
        try clear c4b2
        try clear c5
        try clear c6
        try clear c6b0
        try clear c6b1
        try clear c6b2
        try clear c13
        try clear c15
        try clear c20
        try clear c21
        try clear c25
        try clear c31
        try clear p2
        obtain ⟨kq, HA, HJ29, HO_5, HO_7, HO_8, HO_9, HB⟩ := hcut
        cases kq with
        | zero => exact absurd HA.out (by simp [laws_FnExactUnionClass.j3])
        | succ kj29 =>
         have H := HA.out
         clear HA
         simp only [laws_FnExactUnionClass.j3] at H
         replace H := Option.bind_eq_some_iff.mp H
         obtain ⟨t310, A320, H⟩ := H
         replace H : ((laws_eqInt64S.f kj29 t299 t310).bind fun t313 => (if t313 = true then (laws_FnExactUnionClass.j4 kj29 l0 l1 t295 t296 t299 t302 t305 t308) else (some false))) = some r := H
         have A32 := aM A320
         clear A320
         replace H := Option.bind_eq_some_iff.mp H
         obtain ⟨t313, A330, H⟩ := H
         replace H : (if t313 = true then (laws_FnExactUnionClass.j4 kj29 l0 l1 t295 t296 t299 t302 t305 t308) else (some false)) = some r := H
         have A33 := aM A330
         clear A330
         have HC34 := aM H
         clear H
         go_upto_if 53 with (first | ((with_reducible refine gate_callee (f := 13) rfl ?_); refine goesL_ (some 51) rfl rfl Try.func13 (by kernel_rfl) rfl #[.slice A0 l0.length c0] rfl gQ ?_; (with_reducible refine (laws_toInt64S.calls kj29 _ _ l0 t310 _ ?side1 ?side2 A32.out).mono ?_); (case side1 => exact cQ HR0.out); (case side2 => exact HC0.out); rintro e w35 ⟨v311, rfl, ho0, hb⟩; refine ⟨_, rfl, ?_⟩; have n0_ := aM (Kd.R_elder' (by (with_reducible repeat (first | apply rA | apply rN | apply rD)); exact HO_5.out) (Kd.R_base ho0) hb); have n1_ := aM (Kd.R_elder' (by (with_reducible repeat (first | apply rA | apply rN | apply rD)); exact HO_7.out) (Kd.R_base ho0) hb); have n2_ := aM (Kd.R_elder' (by (with_reducible repeat (first | apply rA | apply rN | apply rD)); exact HO_8.out) (Kd.R_base ho0) hb); have n3_ := aM (Kd.R_elder' (by (with_reducible repeat (first | apply rA | apply rN | apply rD)); exact HO_9.out) (Kd.R_base ho0) hb); have n4_ := aM (Kd.R_lower (Kd.R_new' (Kd.R_new' (Kd.R_new' (Kd.R_new' ho0 (Kd.R_lt (by (with_reducible repeat (first | apply rA | apply rN | apply rD)); exact HO_5.out))) (Kd.R_lt (by (with_reducible repeat (first | apply rA | apply rN | apply rD)); exact HO_7.out))) (Kd.R_lt (by (with_reducible repeat (first | apply rA | apply rN | apply rD)); exact HO_8.out))) (Kd.R_lt (by (with_reducible repeat (first | apply rA | apply rN | apply rD)); exact HO_9.out))) (below_size bQ)); have n5_ := aM (below_step bQ hb); clear HO_5; clear HO_7; clear HO_8; clear HO_9; clear HB; have HO_5 := n0_; have HO_7 := n1_; have HO_8 := n2_; have HO_9 := n3_; have HO312 := n4_; have HB := n5_; clear n0_ n1_ n2_ n3_ n4_ n5_; (try clear hb); (try clear hb2); (try clear hk); (try clear hi); (try clear ho0); obtain ⟨Ao36, co36, eo36⟩ := Kd.R_slice HO312.out; subst eo36) | ((with_reducible refine gate_callee (f := 15) rfl ?_); refine goesL_ (some 52) rfl rfl Try.func15 (by kernel_rfl) rfl #[.slice Ao21 t299.length co21, .slice Ao36 t310.length co36] rfl gQ ?_; (with_reducible refine (laws_eqInt64S.calls kj29 _ _ t299 _ _ t310 t313 _ ?side1 ?side2 ?side3 ?side4 A33.out).mono ?_); (case side1 => repeat (first | exact (Kd.R_reads' HO_7.out).2.2 | (with_reducible first | refine cA ?_ _ | refine cN ?_ _ | refine cD ?_))); (case side2 => exact (Kd.R_reads' HO_7.out).2.1); (case side3 => repeat (first | exact (Kd.R_reads' HO312.out).2.2 | (with_reducible first | refine cA ?_ _ | refine cN ?_ _ | refine cD ?_))); (case side4 => exact (Kd.R_reads' HO312.out).2.1); rintro e w' ⟨rfl, ⟨nd, rfl⟩⟩; refine ⟨_, rfl, ?_⟩))
         (try simp only [Act.put, sI, sZ, sS])
         go_cut [] (fun wc => ∃ (kq : Nat), Aside0 (laws_FnExactUnionClass.j4 kq l0 l1 t295 t296 t299 t302 t305 t308 = some r) ∧ Aside0 (kq ≤ kj29) ∧ Aside0 (Kd.R (Kd.int .i64) 2 wc w.heap.size (fun k_ => some k_ ≠ ((.slice Ao21 t299.length co21) : Value).ownBlock ∧ some k_ ≠ ((.slice Ao22 t302.length co22) : Value).ownBlock ∧ some k_ ≠ (v306 : Value).ownBlock) v297 t295) ∧ Aside0 (Kd.R (Kd.int .i64) 2 wc w.heap.size (fun k_ => some k_ ≠ (v297 : Value).ownBlock ∧ some k_ ≠ ((.slice Ao22 t302.length co22) : Value).ownBlock ∧ some k_ ≠ (v306 : Value).ownBlock) (.slice Ao21 t299.length co21) t299) ∧ Aside0 (Kd.R (Kd.int .i64) 2 wc w.heap.size (fun k_ => some k_ ≠ (v297 : Value).ownBlock ∧ some k_ ≠ ((.slice Ao21 t299.length co21) : Value).ownBlock ∧ some k_ ≠ (v306 : Value).ownBlock) (.slice Ao22 t302.length co22) t302) ∧ Aside0 (Kd.R (Kd.int .i64) 2 wc w.heap.size (fun k_ => some k_ ≠ (v297 : Value).ownBlock ∧ some k_ ≠ ((.slice Ao21 t299.length co21) : Value).ownBlock ∧ some k_ ≠ ((.slice Ao22 t302.length co22) : Value).ownBlock) v306 t305) ∧ Aside0 (Below w.heap.size w wc))
         case first =>
          have H := HC34.out
          clear HC34
          by_cases c37 : t313 = true
          ·subst c37
           have H1 : (laws_FnExactUnionClass.j4 kj29 l0 l1 t295 t296 t299 t302 t305 t308) = some r := by rw [if_pos rfl] at H; exact H
           clear H
           have H := H1
           clear H1
           have H' := aM H
           clear H
           go_wp2
           go_meet
           case rel => exact ⟨_, H', ⟨by have := HJ2.out; have := HJ4.out; have := HJ12.out; have := HJ29.out; first | omega | exact Nat.le_refl _⟩, ⟨by (with_reducible repeat (first | apply rA | apply rN | apply rD)); exact Kd.R_mono HO_5.out (fun _ hk => ⟨hk.1.1, ⟨hk.1.2.1, hk.1.2.2⟩⟩)⟩, ⟨by (with_reducible repeat (first | apply rA | apply rN | apply rD)); exact Kd.R_mono HO_7.out (fun _ hk => ⟨hk.1.1, ⟨hk.1.2.1, hk.1.2.2⟩⟩)⟩, ⟨by (with_reducible repeat (first | apply rA | apply rN | apply rD)); exact Kd.R_mono HO_8.out (fun _ hk => ⟨hk.1.1, ⟨hk.1.2.1, hk.1.2.2⟩⟩)⟩, ⟨by (with_reducible repeat (first | apply rA | apply rN | apply rD)); exact Kd.R_mono HO_9.out (fun _ hk => ⟨hk.1.1, ⟨hk.1.2.1, hk.1.2.2⟩⟩)⟩, ⟨bQ⟩⟩
          ·replace c37 := Bool.eq_false_iff.mpr c37
           subst c37
           have H1 : (some false) = some r := by rw [if_neg (show ¬ (false = true) by decide)] at H; exact H
           clear H
           have H := H1
           clear H1
           obtain rfl := Option.some.inj H
           go_wp2
           go_ret
           exact ⟨eQ, bQ⟩
         case rest =>
          clear HC34
          try clear c1
          try clear c2
          try clear p2
          try clear c3
          try clear c4
          try clear c4b0
          try clear c4b1
          try clear c4b2
          try clear c5
          try clear c6
          try clear c6b0
          try clear c6b1
          try clear c6b2
          try clear c13
          try clear c15
          try clear c20
          try clear c21
          try clear c25
          try clear c31
          try clear c37
          try clear p2
          obtain ⟨kq, HA, HJ33, HO_5, HO_7, HO_8, HO_9, HB⟩ := hcut
          cases kq with
          | zero => exact absurd HA.out (by simp [laws_FnExactUnionClass.j4])
          | succ kj33 =>
           have H := HA.out
           clear HA
           simp only [laws_FnExactUnionClass.j4] at H
           replace H := Option.bind_eq_some_iff.mp H
           obtain ⟨t314, A380, H⟩ := H
           replace H : ((laws_eqInt64S.f kj33 t302 t314).bind fun t317 => (if t317 = true then (laws_FnExactUnionClass.j5 kj33 l0 l1 t295 t296 t299 t302 t305 t308) else (some false))) = some r := H
           have A38 := aM A380
           clear A380
           replace H := Option.bind_eq_some_iff.mp H
           obtain ⟨t317, A390, H⟩ := H
           replace H : (if t317 = true then (laws_FnExactUnionClass.j5 kj33 l0 l1 t295 t296 t299 t302 t305 t308) else (some false)) = some r := H
           have A39 := aM A390
           clear A390
           have HC40 := aM H
           clear H
           go_upto_if 58 with (first | ((with_reducible refine gate_callee (f := 13) rfl ?_); refine goesL_ (some 56) rfl rfl Try.func13 (by kernel_rfl) rfl #[.slice A1 l1.length c1] rfl gQ ?_; (with_reducible refine (laws_toInt64S.calls kj33 _ _ l1 t314 _ ?side1 ?side2 A38.out).mono ?_); (case side1 => exact cQ HR1.out); (case side2 => exact HC1.out); rintro e w41 ⟨v315, rfl, ho0, hb⟩; refine ⟨_, rfl, ?_⟩; have n0_ := aM (Kd.R_elder' (by (with_reducible repeat (first | apply rA | apply rN | apply rD)); exact HO_5.out) (Kd.R_base ho0) hb); have n1_ := aM (Kd.R_elder' (by (with_reducible repeat (first | apply rA | apply rN | apply rD)); exact HO_7.out) (Kd.R_base ho0) hb); have n2_ := aM (Kd.R_elder' (by (with_reducible repeat (first | apply rA | apply rN | apply rD)); exact HO_8.out) (Kd.R_base ho0) hb); have n3_ := aM (Kd.R_elder' (by (with_reducible repeat (first | apply rA | apply rN | apply rD)); exact HO_9.out) (Kd.R_base ho0) hb); have n4_ := aM (Kd.R_lower (Kd.R_new' (Kd.R_new' (Kd.R_new' (Kd.R_new' ho0 (Kd.R_lt (by (with_reducible repeat (first | apply rA | apply rN | apply rD)); exact HO_5.out))) (Kd.R_lt (by (with_reducible repeat (first | apply rA | apply rN | apply rD)); exact HO_7.out))) (Kd.R_lt (by (with_reducible repeat (first | apply rA | apply rN | apply rD)); exact HO_8.out))) (Kd.R_lt (by (with_reducible repeat (first | apply rA | apply rN | apply rD)); exact HO_9.out))) (below_size bQ)); have n5_ := aM (below_step bQ hb); clear HO_5; clear HO_7; clear HO_8; clear HO_9; clear HB; have HO_5 := n0_; have HO_7 := n1_; have HO_8 := n2_; have HO_9 := n3_; have HO316 := n4_; have HB := n5_; clear n0_ n1_ n2_ n3_ n4_ n5_; (try clear hb); (try clear hb2); (try clear hk); (try clear hi); (try clear ho0); obtain ⟨Ao42, co42, eo42⟩ := Kd.R_slice HO316.out; subst eo42) | ((with_reducible refine gate_callee (f := 15) rfl ?_); refine goesL_ (some 57) rfl rfl Try.func15 (by kernel_rfl) rfl #[.slice Ao22 t302.length co22, .slice Ao42 t314.length co42] rfl gQ ?_; (with_reducible refine (laws_eqInt64S.calls kj33 _ _ t302 _ _ t314 t317 _ ?side1 ?side2 ?side3 ?side4 A39.out).mono ?_); (case side1 => repeat (first | exact (Kd.R_reads' HO_8.out).2.2 | (with_reducible first | refine cA ?_ _ | refine cN ?_ _ | refine cD ?_))); (case side2 => exact (Kd.R_reads' HO_8.out).2.1); (case side3 => repeat (first | exact (Kd.R_reads' HO316.out).2.2 | (with_reducible first | refine cA ?_ _ | refine cN ?_ _ | refine cD ?_))); (case side4 => exact (Kd.R_reads' HO316.out).2.1); rintro e w' ⟨rfl, ⟨nd, rfl⟩⟩; refine ⟨_, rfl, ?_⟩))
           (try simp only [Act.put, sI, sZ, sS])
           go_cut [] (fun wc => ∃ (kq : Nat), Aside0 (laws_FnExactUnionClass.j5 kq l0 l1 t295 t296 t299 t302 t305 t308 = some r) ∧ Aside0 (kq ≤ kj33) ∧ Aside0 (Kd.R (Kd.int .i64) 2 wc w.heap.size (fun k_ => some k_ ≠ ((.slice Ao21 t299.length co21) : Value).ownBlock ∧ some k_ ≠ ((.slice Ao22 t302.length co22) : Value).ownBlock ∧ some k_ ≠ (v306 : Value).ownBlock) v297 t295) ∧ Aside0 (Kd.R (Kd.int .i64) 2 wc w.heap.size (fun k_ => some k_ ≠ (v297 : Value).ownBlock ∧ some k_ ≠ ((.slice Ao22 t302.length co22) : Value).ownBlock ∧ some k_ ≠ (v306 : Value).ownBlock) (.slice Ao21 t299.length co21) t299) ∧ Aside0 (Kd.R (Kd.int .i64) 2 wc w.heap.size (fun k_ => some k_ ≠ (v297 : Value).ownBlock ∧ some k_ ≠ ((.slice Ao21 t299.length co21) : Value).ownBlock ∧ some k_ ≠ (v306 : Value).ownBlock) (.slice Ao22 t302.length co22) t302) ∧ Aside0 (Kd.R (Kd.int .i64) 2 wc w.heap.size (fun k_ => some k_ ≠ (v297 : Value).ownBlock ∧ some k_ ≠ ((.slice Ao21 t299.length co21) : Value).ownBlock ∧ some k_ ≠ ((.slice Ao22 t302.length co22) : Value).ownBlock) v306 t305) ∧ Aside0 (Below w.heap.size w wc))
           case first =>
            have H := HC40.out
            clear HC40
            by_cases c43 : t317 = true
            ·subst c43
             have H1 : (laws_FnExactUnionClass.j5 kj33 l0 l1 t295 t296 t299 t302 t305 t308) = some r := by rw [if_pos rfl] at H; exact H
             clear H
             have H := H1
             clear H1
             have H' := aM H
             clear H
             go_wp2
             go_meet
             case rel => exact ⟨_, H', ⟨by have := HJ2.out; have := HJ4.out; have := HJ12.out; have := HJ29.out; have := HJ33.out; first | omega | exact Nat.le_refl _⟩, ⟨by (with_reducible repeat (first | apply rA | apply rN | apply rD)); exact Kd.R_mono HO_5.out (fun _ hk => ⟨hk.1.1, ⟨hk.1.2.1, hk.1.2.2⟩⟩)⟩, ⟨by (with_reducible repeat (first | apply rA | apply rN | apply rD)); exact Kd.R_mono HO_7.out (fun _ hk => ⟨hk.1.1, ⟨hk.1.2.1, hk.1.2.2⟩⟩)⟩, ⟨by (with_reducible repeat (first | apply rA | apply rN | apply rD)); exact Kd.R_mono HO_8.out (fun _ hk => ⟨hk.1.1, ⟨hk.1.2.1, hk.1.2.2⟩⟩)⟩, ⟨by (with_reducible repeat (first | apply rA | apply rN | apply rD)); exact Kd.R_mono HO_9.out (fun _ hk => ⟨hk.1.1, ⟨hk.1.2.1, hk.1.2.2⟩⟩)⟩, ⟨bQ⟩⟩
            ·replace c43 := Bool.eq_false_iff.mpr c43
             subst c43
             have H1 : (some false) = some r := by rw [if_neg (show ¬ (false = true) by decide)] at H; exact H
             clear H
             have H := H1
             clear H1
             obtain rfl := Option.some.inj H
             go_wp2
             go_ret
             exact ⟨eQ, bQ⟩
           case rest =>
            clear HC40
            try clear c1
            try clear c2
            try clear p2
            try clear c3
            try clear c4
            try clear c4b0
            try clear c4b1
            try clear c4b2
            try clear c5
            try clear c6
            try clear c6b0
            try clear c6b1
            try clear c6b2
            try clear c13
            try clear c15
            try clear c20
            try clear c21
            try clear c25
            try clear c31
            try clear c37
            try clear c43
            try clear p2
            obtain ⟨kq, HA, HJ39, HO_5, HO_7, HO_8, HO_9, HB⟩ := hcut
            cases kq with
            | zero => exact absurd HA.out (by simp [laws_FnExactUnionClass.j5])
            | succ kj39 =>
             have H := HA.out
             clear HA
             simp only [laws_FnExactUnionClass.j5] at H
             replace H := Option.bind_eq_some_iff.mp H
             obtain ⟨⟨t318, t319⟩, A440, H⟩ := H
             replace H : ((laws_markInt64S.f kj39 t302 t318).bind fun bt320 => (if bt320.1 < 0 then (laws_FnExactUnionClass.j6 kj39 l0 l1 t295 t296 t305 true) else ((laws_eqInt64S.f kj39 t305 t295).bind fun t322 => (if t322 = true then (laws_FnExactUnionClass.j6 kj39 l0 l1 t295 t296 t305 (t308 != t296)) else (laws_FnExactUnionClass.j6 kj39 l0 l1 t295 t296 t305 true))))) = some r := H
             have A44 := aM A440
             clear A440
             replace H := Option.bind_eq_some_iff.mp H
             obtain ⟨⟨t320, t321⟩, A450, H⟩ := H
             replace H : (if t320 < 0 then (laws_FnExactUnionClass.j6 kj39 l0 l1 t295 t296 t305 true) else ((laws_eqInt64S.f kj39 t305 t295).bind fun t322 => (if t322 = true then (laws_FnExactUnionClass.j6 kj39 l0 l1 t295 t296 t305 (t308 != t296)) else (laws_FnExactUnionClass.j6 kj39 l0 l1 t295 t296 t305 true)))) = some r := H
             have A45 := aM A450
             clear A450
             have HC46 := aM H
             clear H
             go_upto_region 18 with (first | ((with_reducible refine gate_callee (f := 18) rfl ?_); refine goesL_ (some 61) rfl rfl Try.func18 (by kernel_rfl) rfl #[.slice Ao21 t299.length co21, .int .i64 1] rfl gQ ?_; (with_reducible refine (laws_markInt64S.calls kj39 (fun k_ => some k_ = (.slice Ao21 t299.length co21 : Value).ownBlock) (.slice Ao21 t299.length co21) t299 1 t318 t319 w _ ?side1 ?side2 A44.out).mono ?_); (case side1 => repeat (first | (with_reducible first | exact HB.out | apply bA | apply bN | apply bD) | exact HB.out)); (case side2 => exact Kd.R_tight rfl HO_7.out); rintro e w47 ⟨rfl, hy0, hb, hkp⟩; refine ⟨_, rfl, ?_⟩; have n0_ := aM (Kd.R_mono (ok' := fun k_ => some k_ ≠ (.slice Ao21 t299.length co21 : Value).ownBlock ∧ some k_ ≠ (.slice Ao22 t302.length co22 : Value).ownBlock ∧ some k_ ≠ (v306 : Value).ownBlock) (Kd.R_keptB (HO_5.out) hkp (fun k_ hk_ hs_ => (hk_.1) hs_)) (fun k_ hk_ => ⟨hk_.1.1, hk_.1.2.1, hk_.1.2.2⟩)); have n1_ := aM (Kd.R_reok rfl hy0 (fun k_ e_ => HO_7.out.1 k_ e_)); have n2_ := aM (Kd.R_mono (ok' := fun k_ => some k_ ≠ (v297 : Value).ownBlock ∧ some k_ ≠ (.slice Ao21 t299.length co21 : Value).ownBlock ∧ some k_ ≠ (v306 : Value).ownBlock) (Kd.R_keptB (HO_8.out) hkp (fun k_ hk_ hs_ => (hk_.2.1) hs_)) (fun k_ hk_ => ⟨hk_.1.1, hk_.1.2.1, hk_.1.2.2⟩)); have n3_ := aM (Kd.R_mono (ok' := fun k_ => some k_ ≠ (v297 : Value).ownBlock ∧ some k_ ≠ (.slice Ao21 t299.length co21 : Value).ownBlock ∧ some k_ ≠ (.slice Ao22 t302.length co22 : Value).ownBlock) (Kd.R_keptB (HO_9.out) hkp (fun k_ hk_ hs_ => (hk_.2.1) hs_)) (fun k_ hk_ => ⟨hk_.1.1, hk_.1.2.1, hk_.1.2.2⟩)); have n4_ := aM (hb); clear HO_5; clear HO_7; clear HO_8; clear HO_9; clear HB; have HO_5 := n0_; have HO_7 := n1_; have HO_8 := n2_; have HO_9 := n3_; have HB := n4_; clear n0_ n1_ n2_ n3_ n4_; (try clear hb); (try clear hkp); (try clear hy0)) | ((with_reducible refine gate_callee (f := 18) rfl ?_); refine goesL_ (some 64) rfl rfl Try.func18 (by kernel_rfl) rfl #[.slice Ao22 t302.length co22, .int .i64 t318] rfl gQ ?_; (with_reducible refine (laws_markInt64S.calls kj39 (fun k_ => some k_ = (.slice Ao22 t302.length co22 : Value).ownBlock) (.slice Ao22 t302.length co22) t302 t318 t320 t321 w _ ?side1 ?side2 A45.out).mono ?_); (case side1 => repeat (first | (with_reducible first | exact HB.out | apply bA | apply bN | apply bD) | exact HB.out)); (case side2 => exact Kd.R_tight rfl HO_8.out); rintro e w48 ⟨rfl, hy0, hb, hkp⟩; refine ⟨_, rfl, ?_⟩; have n0_ := aM (Kd.R_mono (ok' := fun k_ => some k_ ≠ (.slice Ao21 t299.length co21 : Value).ownBlock ∧ some k_ ≠ (.slice Ao22 t302.length co22 : Value).ownBlock ∧ some k_ ≠ (v306 : Value).ownBlock) (Kd.R_keptB (HO_5.out) hkp (fun k_ hk_ hs_ => (hk_.2.1) hs_)) (fun k_ hk_ => ⟨hk_.1.1, hk_.1.2.1, hk_.1.2.2⟩)); have n1_ := aM (Kd.R_mono (ok' := fun k_ => some k_ ≠ (v297 : Value).ownBlock ∧ some k_ ≠ (.slice Ao22 t302.length co22 : Value).ownBlock ∧ some k_ ≠ (v306 : Value).ownBlock) (Kd.R_keptB (HO_7.out) hkp (fun k_ hk_ hs_ => (hk_.2.1) hs_)) (fun k_ hk_ => ⟨hk_.1.1, hk_.1.2.1, hk_.1.2.2⟩)); have n2_ := aM (Kd.R_reok rfl hy0 (fun k_ e_ => HO_8.out.1 k_ e_)); have n3_ := aM (Kd.R_mono (ok' := fun k_ => some k_ ≠ (v297 : Value).ownBlock ∧ some k_ ≠ (.slice Ao21 t299.length co21 : Value).ownBlock ∧ some k_ ≠ (.slice Ao22 t302.length co22 : Value).ownBlock) (Kd.R_keptB (HO_9.out) hkp (fun k_ hk_ hs_ => (hk_.2.2) hs_)) (fun k_ hk_ => ⟨hk_.1.1, hk_.1.2.1, hk_.1.2.2⟩)); have n4_ := aM (hb); clear HO_5; clear HO_7; clear HO_8; clear HO_9; clear HB; have HO_5 := n0_; have HO_7 := n1_; have HO_8 := n2_; have HO_9 := n3_; have HB := n4_; clear n0_ n1_ n2_ n3_ n4_; (try clear hb); (try clear hkp); (try clear hy0)))
             (try simp only [Act.put, sI, sZ, sS])
             go_cut [77] (fun v77 wc => ∃ (kq : Nat) (x77_45 : Bool), v77 = .bool x77_45 ∧ Aside0 (laws_FnExactUnionClass.j6 kq l0 l1 t295 t296 t305 x77_45 = some r) ∧ Aside0 (kq ≤ kj39) ∧ Aside0 (Kd.R (Kd.int .i64) 2 wc w.heap.size (fun k_ => some k_ ≠ (v306 : Value).ownBlock) v297 t295) ∧ Aside0 (Kd.R (Kd.int .i64) 2 wc w.heap.size (fun k_ => some k_ ≠ (v297 : Value).ownBlock) v306 t305) ∧ Aside0 (Below w.heap.size w wc))
             case first =>
              have H := HC46.out
              clear HC46
              by_cases c49 : t320 < 0
              ·rw [if_pos c49] at H
               have c49b0 : decide (t320 < 0) = true := decide_eq_true c49
               clear c49
               (first | rw [c49b0] | (simp only [i64_w, i32_w]; rw [c49b0]) | rw [c49b1] | rw [c49b2] | rw [c49b3] | rw [c49b4] | skip)
               have H' := aM H
               clear H
               go_wp2
               go_meet
               case rel => exact ⟨_, (true), rQ, H', ⟨by have := HJ2.out; have := HJ4.out; have := HJ12.out; have := HJ29.out; have := HJ33.out; have := HJ39.out; first | omega | exact Nat.le_refl _⟩, ⟨by (with_reducible repeat (first | apply rA | apply rN | apply rD)); exact Kd.R_mono HO_5.out (fun _ hk => hk.2.2)⟩, ⟨by (with_reducible repeat (first | apply rA | apply rN | apply rD)); exact Kd.R_mono HO_9.out (fun _ hk => hk.1)⟩, ⟨bQ⟩⟩
              ·rw [if_neg c49] at H
               have c49b0 : decide (t320 < 0) = false := decide_eq_false c49
               clear c49
               (first | rw [c49b0] | (simp only [i64_w, i32_w]; rw [c49b0]) | rw [c49b1] | rw [c49b2] | rw [c49b3] | rw [c49b4] | skip)
               replace H := Option.bind_eq_some_iff.mp H
               obtain ⟨t322, A500, H⟩ := H
               replace H : (if t322 = true then (laws_FnExactUnionClass.j6 kj39 l0 l1 t295 t296 t305 (t308 != t296)) else (laws_FnExactUnionClass.j6 kj39 l0 l1 t295 t296 t305 true)) = some r := H
               have A50 := aM A500
               clear A500
               by_cases c51 : t322 = true
               ·subst c51
                have H1 : (laws_FnExactUnionClass.j6 kj39 l0 l1 t295 t296 t305 (t308 != t296)) = some r := by rw [if_pos rfl] at H; exact H
                clear H
                have H := H1
                clear H1
                have H' := aM H
                clear H
                obtain ⟨Ao52, co52, eo52⟩ := Kd.R_slice HO_9.out
                subst eo52
                obtain ⟨Ao53, co53, eo53⟩ := Kd.R_slice HO_5.out
                subst eo53
                go_wp2_with (first | (go_at_call 15; (with_reducible refine (laws_eqInt64S.calls kj39 _ _ t305 _ _ t295 true _ ?side1 ?side2 ?side3 ?side4 A50.out).mono ?_); (case side1 => repeat (first | exact (Kd.R_reads' HO_9.out).2.2 | (with_reducible first | refine cA ?_ _ | refine cN ?_ _ | refine cD ?_))); (case side2 => exact (Kd.R_reads' HO_9.out).2.1); (case side3 => repeat (first | exact (Kd.R_reads' HO_5.out).2.2 | (with_reducible first | refine cA ?_ _ | refine cN ?_ _ | refine cD ?_))); (case side4 => exact (Kd.R_reads' HO_5.out).2.1); rintro e w' ⟨rfl, ⟨nd, rfl⟩⟩))
                go_meet
                case rel => exact ⟨_, ((t308 != t296)), rQ, H', ⟨by have := HJ2.out; have := HJ4.out; have := HJ12.out; have := HJ29.out; have := HJ33.out; have := HJ39.out; first | omega | exact Nat.le_refl _⟩, ⟨by (with_reducible repeat (first | apply rA | apply rN | apply rD)); exact Kd.R_mono HO_5.out (fun _ hk => hk.2.2)⟩, ⟨by (with_reducible repeat (first | apply rA | apply rN | apply rD)); exact Kd.R_mono HO_9.out (fun _ hk => hk.1)⟩, ⟨bQ⟩⟩
               ·replace c51 := Bool.eq_false_iff.mpr c51
                subst c51
                have H1 : (laws_FnExactUnionClass.j6 kj39 l0 l1 t295 t296 t305 true) = some r := by rw [if_neg (show ¬ (false = true) by decide)] at H; exact H
                clear H
                have H := H1
                clear H1
                have H' := aM H
                clear H
                obtain ⟨Ao54, co54, eo54⟩ := Kd.R_slice HO_9.out
                subst eo54
                obtain ⟨Ao55, co55, eo55⟩ := Kd.R_slice HO_5.out
                subst eo55
                go_wp2_with (first | (go_at_call 15; (with_reducible refine (laws_eqInt64S.calls kj39 _ _ t305 _ _ t295 false _ ?side1 ?side2 ?side3 ?side4 A50.out).mono ?_); (case side1 => repeat (first | exact (Kd.R_reads' HO_9.out).2.2 | (with_reducible first | refine cA ?_ _ | refine cN ?_ _ | refine cD ?_))); (case side2 => exact (Kd.R_reads' HO_9.out).2.1); (case side3 => repeat (first | exact (Kd.R_reads' HO_5.out).2.2 | (with_reducible first | refine cA ?_ _ | refine cN ?_ _ | refine cD ?_))); (case side4 => exact (Kd.R_reads' HO_5.out).2.1); rintro e w' ⟨rfl, ⟨nd, rfl⟩⟩))
                go_meet
                case rel => exact ⟨_, (true), rQ, H', ⟨by have := HJ2.out; have := HJ4.out; have := HJ12.out; have := HJ29.out; have := HJ33.out; have := HJ39.out; first | omega | exact Nat.le_refl _⟩, ⟨by (with_reducible repeat (first | apply rA | apply rN | apply rD)); exact Kd.R_mono HO_5.out (fun _ hk => hk.2.2)⟩, ⟨by (with_reducible repeat (first | apply rA | apply rN | apply rD)); exact Kd.R_mono HO_9.out (fun _ hk => hk.1)⟩, ⟨bQ⟩⟩
             case rest =>
              clear HC46
              try clear c1
              try clear c2
              try clear p2
              try clear c3
              try clear c4
              try clear c4b0
              try clear c4b1
              try clear c4b2
              try clear c5
              try clear c6
              try clear c6b0
              try clear c6b1
              try clear c6b2
              try clear c13
              try clear c15
              try clear c18
              try clear c20
              try clear c21
              try clear c25
              try clear c31
              try clear c37
              try clear c43
              try clear c49
              try clear c49b0
              try clear c49b1
              try clear c49b2
              try clear c51
              try clear p2
              obtain ⟨kq, x77_45, rfl, HA, HJ45, HO_5, HO_9, HB⟩ := hcut
              cases kq with
              | zero => exact absurd HA.out (by simp [laws_FnExactUnionClass.j6])
              | succ kj45 =>
               have H := HA.out
               clear HA
               simp only [laws_FnExactUnionClass.j6] at H
               have HC56 := aM H
               clear H
               go_upto_if 77 with (fail)
               go_cut [] (fun wc => ∃ (kq : Nat), Aside0 (laws_FnExactUnionClass.j7 kq l0 l1 t295 t296 t305 = some r) ∧ Aside0 (kq ≤ kj45) ∧ Aside0 (Kd.R (Kd.int .i64) 2 wc w.heap.size (fun k_ => some k_ ≠ (v306 : Value).ownBlock) v297 t295) ∧ Aside0 (Kd.R (Kd.int .i64) 2 wc w.heap.size (fun k_ => some k_ ≠ (v297 : Value).ownBlock) v306 t305) ∧ Aside0 (Below w.heap.size w wc))
               case first =>
                have H := HC56.out
                clear HC56
                by_cases c57 : x77_45 = true
                ·subst c57
                 have H1 : (some false) = some r := by rw [if_pos rfl] at H; exact H
                 clear H
                 have H := H1
                 clear H1
                 obtain rfl := Option.some.inj H
                 go_wp2
                 go_ret
                 exact ⟨eQ, bQ⟩
                ·replace c57 := Bool.eq_false_iff.mpr c57
                 subst c57
                 have H1 : (laws_FnExactUnionClass.j7 kj45 l0 l1 t295 t296 t305) = some r := by rw [if_neg (show ¬ (false = true) by decide)] at H; exact H
                 clear H
                 have H := H1
                 clear H1
                 have H' := aM H
                 clear H
                 go_wp2
                 go_meet
                 case rel => exact ⟨_, H', ⟨by have := HJ2.out; have := HJ4.out; have := HJ12.out; have := HJ29.out; have := HJ33.out; have := HJ39.out; have := HJ45.out; first | omega | exact Nat.le_refl _⟩, ⟨by (with_reducible repeat (first | apply rA | apply rN | apply rD)); exact HO_5.out⟩, ⟨by (with_reducible repeat (first | apply rA | apply rN | apply rD)); exact HO_9.out⟩, ⟨bQ⟩⟩
               case rest =>
                clear HC56
                try clear c1
                try clear c2
                try clear p2
                try clear c3
                try clear c4
                try clear c4b0
                try clear c4b1
                try clear c4b2
                try clear c5
                try clear c6
                try clear c6b0
                try clear c6b1
                try clear c6b2
                try clear c13
                try clear c15
                try clear c18
                try clear c20
                try clear c21
                try clear c25
                try clear c31
                try clear c37
                try clear c43
                try clear c49
                try clear c49b0
                try clear c49b1
                try clear c49b2
                try clear c51
                try clear c57
                try clear p2
                obtain ⟨kq, HA, HJ55, HO_5, HO_9, HB⟩ := hcut
                cases kq with
                | zero => exact absurd HA.out (by simp [laws_FnExactUnionClass.j7])
                | succ kj55 =>
                 have H := HA.out
                 clear HA
                 simp only [laws_FnExactUnionClass.j7] at H
                 replace H := Option.bind_eq_some_iff.mp H
                 obtain ⟨⟨t323, t324⟩, A580, H⟩ := H
                 replace H : ((laws_heldInt64S.f kj55 t324 1).bind fun t325 => (if t325 < 0 then (some false) else (laws_FnExactUnionClass.j8 kj55 l0 l1 t295 t296 t324 t323 t325))) = some r := H
                 have A58 := aM A580
                 clear A580
                 replace H := Option.bind_eq_some_iff.mp H
                 obtain ⟨t325, A590, H⟩ := H
                 replace H : (if t325 < 0 then (some false) else (laws_FnExactUnionClass.j8 kj55 l0 l1 t295 t296 t324 t323 t325)) = some r := H
                 have A59 := aM A590
                 clear A590
                 have HC60 := aM H
                 clear H
                 obtain ⟨Ao61, co61, eo61⟩ := Kd.R_slice HO_9.out
                 subst eo61
                 go_upto_if 85 with (first | ((with_reducible refine gate_callee (f := 18) rfl ?_); refine goesL_ (some 80) rfl rfl Try.func18 (by kernel_rfl) rfl #[.slice Ao61 t305.length co61, .int .i64 1] rfl gQ ?_; (with_reducible refine (laws_markInt64S.calls kj55 (fun k_ => some k_ = (.slice Ao61 t305.length co61 : Value).ownBlock) (.slice Ao61 t305.length co61) t305 1 t323 t324 w _ ?side1 ?side2 A58.out).mono ?_); (case side1 => repeat (first | (with_reducible first | exact HB.out | apply bA | apply bN | apply bD) | exact HB.out)); (case side2 => exact Kd.R_tight rfl HO_9.out); rintro e w62 ⟨rfl, hy0, hb, hkp⟩; refine ⟨_, rfl, ?_⟩; have n0_ := aM (Kd.R_mono (ok' := fun k_ => some k_ ≠ (.slice Ao61 t305.length co61 : Value).ownBlock) (Kd.R_keptB (HO_5.out) hkp (fun k_ hk_ hs_ => (hk_) hs_)) (fun k_ hk_ => hk_.1)); have n1_ := aM (Kd.R_reok rfl hy0 (fun k_ e_ => HO_9.out.1 k_ e_)); have n2_ := aM (hb); clear HO_5; clear HO_9; clear HB; have HO_5 := n0_; have HO_9 := n1_; have HB := n2_; clear n0_ n1_ n2_; (try clear hb); (try clear hkp); (try clear hy0)) | ((with_reducible refine gate_callee (f := 19) rfl ?_); refine goesL_ (some 83) rfl rfl Try.func19 (by kernel_rfl) rfl #[.slice Ao61 t324.length co61, .int .i64 1] rfl (by (try simp only [List.map_toArray, List.map_cons, List.map_nil]); first | done | (rw [show t324.length = t305.length from (Kd.R_reads' HO_9.out).1.symm] <;> rfl) | rfl | (simp only [List.length_drop, List.length_take]; rfl)) ?_; (with_reducible refine (laws_heldInt64S.calls kj55 _ _ t324 1 t325 _ ?side1 ?side2 A59.out).mono ?_); (case side1 => repeat (first | exact (Kd.R_reads' HO_9.out).2.2 | (with_reducible first | refine cA ?_ _ | refine cN ?_ _ | refine cD ?_))); (case side2 => rw [show t324.length = t305.length from (Kd.R_reads' HO_9.out).1.symm]; exact (Kd.R_reads' HO_9.out).2.1); rintro e w' ⟨rfl, ⟨nd, rfl⟩⟩; refine ⟨_, rfl, ?_⟩))
                 (try simp only [Act.put, sI, sZ, sS])
                 go_cut [] (fun wc => ∃ (kq : Nat), Aside0 (laws_FnExactUnionClass.j8 kq l0 l1 t295 t296 t324 t323 t325 = some r) ∧ Aside0 (kq ≤ kj55) ∧ Aside0 (Kd.R (Kd.int .i64) 2 wc w.heap.size (fun k_ => some k_ ≠ ((.slice Ao61 t305.length co61) : Value).ownBlock) v297 t295) ∧ Aside0 (Kd.R (Kd.int .i64) 2 wc w.heap.size (fun k_ => some k_ ≠ (v297 : Value).ownBlock) (.slice Ao61 t305.length co61) t324) ∧ Aside0 (Below w.heap.size w wc))
                 case first =>
                  have H := HC60.out
                  clear HC60
                  by_cases c63 : t325 < 0
                  ·rw [if_pos c63] at H
                   have c63b0 : decide (t325 < 0) = true := decide_eq_true c63
                   clear c63
                   (first | rw [c63b0] | (simp only [i64_w, i32_w]; rw [c63b0]) | rw [c63b1] | rw [c63b2] | rw [c63b3] | rw [c63b4] | skip)
                   obtain rfl := Option.some.inj H
                   go_wp2
                   go_ret
                   exact ⟨eQ, bQ⟩
                  ·rw [if_neg c63] at H
                   have c63b0 : decide (t325 < 0) = false := decide_eq_false c63
                   clear c63
                   (first | rw [c63b0] | (simp only [i64_w, i32_w]; rw [c63b0]) | rw [c63b1] | rw [c63b2] | rw [c63b3] | rw [c63b4] | skip)
                   have H' := aM H
                   clear H
                   go_wp2
                   go_meet
                   case rel => exact ⟨_, H', ⟨by have := HJ2.out; have := HJ4.out; have := HJ12.out; have := HJ29.out; have := HJ33.out; have := HJ39.out; have := HJ45.out; have := HJ55.out; first | omega | exact Nat.le_refl _⟩, ⟨by (with_reducible repeat (first | apply rA | apply rN | apply rD)); exact HO_5.out⟩, ⟨by (with_reducible repeat (first | apply rA | apply rN | apply rD)); exact HO_9.out⟩, ⟨bQ⟩⟩
                 case rest =>
                  clear HC60
                  try clear c1
                  try clear c2
                  try clear p2
                  try clear c3
                  try clear c4
                  try clear c4b0
                  try clear c4b1
                  try clear c4b2
                  try clear c5
                  try clear c6
                  try clear c6b0
                  try clear c6b1
                  try clear c6b2
                  try clear c13
                  try clear c15
                  try clear c18
                  try clear c19
                  try clear c20
                  try clear c21
                  try clear c25
                  try clear c31
                  try clear c37
                  try clear c43
                  try clear c49
                  try clear c49b0
                  try clear c49b1
                  try clear c49b2
                  try clear c51
                  try clear c57
                  try clear c63
                  try clear c63b0
                  try clear c63b1
                  try clear c63b2
                  try clear p2
                  obtain ⟨kq, HA, HJ59, HO_5, HO_9, HB⟩ := hcut
                  have hl9_59 := (Kd.R_reads' HO_9.out).1
                  rw [hl9_59] at HO_9
                  (try simp only [hl9_59])
                  (try simp only [hl9_59] at HO_5)
                  cases kq with
                  | zero => exact absurd HA.out (by simp [laws_FnExactUnionClass.j8])
                  | succ kj59 =>
                   have H := HA.out
                   clear HA
                   simp only [laws_FnExactUnionClass.j8] at H
                   have HC64 := aM H
                   clear H
                   go_upto_if 88 with (fail)
                   go_cut [] (fun wc => ∃ (kq : Nat), Aside0 (laws_FnExactUnionClass.j9 kq l0 l1 t295 t296 t324 t323 = some r) ∧ Aside0 (kq ≤ kj59) ∧ Aside0 (Kd.R (Kd.int .i64) 2 wc w.heap.size (fun k_ => some k_ ≠ ((.slice Ao61 t324.length co61) : Value).ownBlock) v297 t295) ∧ Aside0 (Kd.R (Kd.int .i64) 2 wc w.heap.size (fun k_ => some k_ ≠ (v297 : Value).ownBlock) (.slice Ao61 t324.length co61) t324) ∧ Aside0 (Below w.heap.size w wc))
                   case first =>
                    have H := HC64.out
                    clear HC64
                    by_cases c65 : t325 = t323
                    ·rw [if_pos c65] at H
                     have c65b0 : (t325 == t323) = true := beq_iff_eq.mpr c65
                     have c65b1 : (t325 != t323) = false := bne_eq_false_iff_eq.mpr c65
                     clear c65
                     (first | rw [c65b0] | (simp only [i64_w, i32_w]; rw [c65b0]) | rw [c65b1] | rw [c65b2] | rw [c65b3] | rw [c65b4] | skip)
                     have H' := aM H
                     clear H
                     go_wp2
                     go_meet
                     case rel => exact ⟨_, H', ⟨by have := HJ2.out; have := HJ4.out; have := HJ12.out; have := HJ29.out; have := HJ33.out; have := HJ39.out; have := HJ45.out; have := HJ55.out; have := HJ59.out; first | omega | exact Nat.le_refl _⟩, ⟨by (try simp only [hl9_59]); (with_reducible repeat (first | apply rA | apply rN | apply rD)); exact HO_5.out⟩, ⟨by (try simp only [hl9_59]); (with_reducible repeat (first | apply rA | apply rN | apply rD)); exact HO_9.out⟩, ⟨bQ⟩⟩
                    ·rw [if_neg c65] at H
                     have c65b0 : (t325 == t323) = false := beq_eq_false_iff_ne.mpr c65
                     have c65b1 : (t325 != t323) = true := bne_iff_ne.mpr c65
                     (first | rw [c65b0] | (simp only [i64_w, i32_w]; rw [c65b0]) | rw [c65b1] | rw [c65b2] | rw [c65b3] | rw [c65b4] | skip)
                     obtain rfl := Option.some.inj H
                     go_wp2
                     go_ret
                     exact ⟨eQ, bQ⟩
                   case rest =>
                    clear HC64
                    try clear c1
                    try clear c2
                    try clear p2
                    try clear c3
                    try clear c4
                    try clear c4b0
                    try clear c4b1
                    try clear c4b2
                    try clear c5
                    try clear c6
                    try clear c6b0
                    try clear c6b1
                    try clear c6b2
                    try clear c13
                    try clear c15
                    try clear c18
                    try clear c19
                    try clear c20
                    try clear c21
                    try clear c25
                    try clear c31
                    try clear c37
                    try clear c43
                    try clear c49
                    try clear c49b0
                    try clear c49b1
                    try clear c49b2
                    try clear c51
                    try clear c57
                    try clear c63
                    try clear c63b0
                    try clear c63b1
                    try clear c63b2
                    try clear c65
                    try clear c65b0
                    try clear c65b1
                    try clear c65b2
                    try clear p2
                    obtain ⟨kq, HA, HJ63, HO_5, HO_9, HB⟩ := hcut
                    cases kq with
                    | zero => exact absurd HA.out (by simp [laws_FnExactUnionClass.j9])
                    | succ kj63 =>
                     have H := HA.out
                     clear HA
                     simp only [laws_FnExactUnionClass.j9] at H
                     replace H := Option.bind_eq_some_iff.mp H
                     obtain ⟨t326, A660, H⟩ := H
                     replace H : ((laws_toInt64S.f kj63 l1).bind fun t329 => ((impl_UnionClass.f kj63 t326 t329).bind fun bt332 => ((laws_eqInt64S.f kj63 bt332.1 t295).bind fun t336 => (if t336 = true then (laws_FnExactUnionClass.j10 kj63 t324 t323 (bt332.2 != t296)) else (laws_FnExactUnionClass.j10 kj63 t324 t323 true))))) = some r := H
                     have A66 := aM A660
                     clear A660
                     replace H := Option.bind_eq_some_iff.mp H
                     obtain ⟨t329, A670, H⟩ := H
                     replace H : ((impl_UnionClass.f kj63 t326 t329).bind fun bt332 => ((laws_eqInt64S.f kj63 bt332.1 t295).bind fun t336 => (if t336 = true then (laws_FnExactUnionClass.j10 kj63 t324 t323 (bt332.2 != t296)) else (laws_FnExactUnionClass.j10 kj63 t324 t323 true)))) = some r := H
                     have A67 := aM A670
                     clear A670
                     replace H := Option.bind_eq_some_iff.mp H
                     obtain ⟨⟨t332, t335⟩, A680, H⟩ := H
                     replace H : ((laws_eqInt64S.f kj63 t332 t295).bind fun t336 => (if t336 = true then (laws_FnExactUnionClass.j10 kj63 t324 t323 (t335 != t296)) else (laws_FnExactUnionClass.j10 kj63 t324 t323 true))) = some r := H
                     have A68 := aM A680
                     clear A680
                     have HC69 := aM H
                     clear H
                     go_upto_region 29 with (first | ((with_reducible refine gate_callee (f := 13) rfl ?_); refine goesL_ (some 91) rfl rfl Try.func13 (by kernel_rfl) rfl #[.slice A0 l0.length c0] rfl gQ ?_; (with_reducible refine (laws_toInt64S.calls kj63 _ _ l0 t326 _ ?side1 ?side2 A66.out).mono ?_); (case side1 => exact cQ HR0.out); (case side2 => exact HC0.out); rintro e w70 ⟨v327, rfl, ho0, hb⟩; refine ⟨_, rfl, ?_⟩; have n0_ := aM (Kd.R_elder' (by (with_reducible repeat (first | apply rA | apply rN | apply rD)); exact HO_5.out) (Kd.R_base ho0) hb); have n1_ := aM (Kd.R_elder' (by (with_reducible repeat (first | apply rA | apply rN | apply rD)); exact HO_9.out) (Kd.R_base ho0) hb); have n2_ := aM (Kd.R_lower (Kd.R_new' (Kd.R_new' ho0 (Kd.R_lt (by (with_reducible repeat (first | apply rA | apply rN | apply rD)); exact HO_5.out))) (Kd.R_lt (by (with_reducible repeat (first | apply rA | apply rN | apply rD)); exact HO_9.out))) (below_size bQ)); have n3_ := aM (below_step bQ hb); clear HO_5; clear HO_9; clear HB; have HO_5 := n0_; have HO_9 := n1_; have HO328 := n2_; have HB := n3_; clear n0_ n1_ n2_ n3_; (try clear hb); (try clear hb2); (try clear hk); (try clear hi); (try clear ho0)) | ((with_reducible refine gate_callee (f := 13) rfl ?_); refine goesL_ (some 93) rfl rfl Try.func13 (by kernel_rfl) rfl #[.slice A1 l1.length c1] rfl gQ ?_; (with_reducible refine (laws_toInt64S.calls kj63 _ _ l1 t329 _ ?side1 ?side2 A67.out).mono ?_); (case side1 => exact cQ HR1.out); (case side2 => exact HC1.out); rintro e w71 ⟨v330, rfl, ho0, hb⟩; refine ⟨_, rfl, ?_⟩; have n0_ := aM (Kd.R_elder' (by (with_reducible repeat (first | apply rA | apply rN | apply rD)); exact HO_5.out) (Kd.R_base ho0) hb); have n1_ := aM (Kd.R_elder' (by (with_reducible repeat (first | apply rA | apply rN | apply rD)); exact HO_9.out) (Kd.R_base ho0) hb); have n2_ := aM (Kd.R_elder' (by (with_reducible repeat (first | apply rA | apply rN | apply rD)); exact HO328.out) (Kd.R_base ho0) hb); have n3_ := aM (Kd.R_lower (Kd.R_new' (Kd.R_new' (Kd.R_new' ho0 (Kd.R_lt (by (with_reducible repeat (first | apply rA | apply rN | apply rD)); exact HO_5.out))) (Kd.R_lt (by (with_reducible repeat (first | apply rA | apply rN | apply rD)); exact HO_9.out))) (Kd.R_lt (by (with_reducible repeat (first | apply rA | apply rN | apply rD)); exact HO328.out))) (below_size bQ)); have n4_ := aM (below_step bQ hb); clear HO_5; clear HO_9; clear HO328; clear HB; have HO_5 := n0_; have HO_9 := n1_; have HO328 := n2_; have HO331 := n3_; have HB := n4_; clear n0_ n1_ n2_ n3_ n4_; (try clear hb); (try clear hb2); (try clear hk); (try clear hi); (try clear ho0); obtain ⟨Ao72, co72, eo72⟩ := Kd.R_slice HO328.out; subst eo72; obtain ⟨Ao73, co73, eo73⟩ := Kd.R_slice HO331.out; subst eo73) | ((with_reducible refine gate_callee (f := 21) rfl ?_); refine goesL_ (some 94) rfl rfl Try.func21 (by kernel_rfl) rfl #[.slice Ao72 t326.length co72, .slice Ao73 t329.length co73] rfl gQ ?_; (with_reducible refine (impl_UnionClass.calls kj63 (fun k_ => some k_ = (.slice Ao72 t326.length co72 : Value).ownBlock) _ _ t326 (fun k_ => some k_ = (.slice Ao73 t329.length co73 : Value).ownBlock) _ _ t329 t332 t335 _ ?side1 ?side2 A68.out).mono ?_); (case side1 => exact Kd.R_V (Kd.R_tight rfl (HO328.out))); (case side2 => exact Kd.R_V (Kd.R_tight rfl (HO331.out))); rintro e w74 ⟨v333, rfl, ho0, hb⟩; refine ⟨_, rfl, ?_⟩; have n0_ := aM (Kd.R_elder' (by (with_reducible repeat (first | apply rA | apply rN | apply rD)); exact HO_5.out) (Kd.R_base ho0) hb); have n1_ := aM (Kd.R_elder' (by (with_reducible repeat (first | apply rA | apply rN | apply rD)); exact HO_9.out) (Kd.R_base ho0) hb); have n2_ := aM (Kd.R_elder' (by (with_reducible repeat (first | apply rA | apply rN | apply rD)); exact HO328.out) (Kd.R_base ho0) hb); have n3_ := aM (Kd.R_elder' (by (with_reducible repeat (first | apply rA | apply rN | apply rD)); exact HO331.out) (Kd.R_base ho0) hb); have n4_ := aM (Kd.R_lower (Kd.R_new' (Kd.R_new' (Kd.R_new' (Kd.R_new' (Kd.R_mono (ok' := fun k_ => True) ho0 (fun _ hk_ => trivial)) (Kd.R_lt (by (with_reducible repeat (first | apply rA | apply rN | apply rD)); exact HO_5.out))) (Kd.R_lt (by (with_reducible repeat (first | apply rA | apply rN | apply rD)); exact HO_9.out))) (Kd.R_lt (by (with_reducible repeat (first | apply rA | apply rN | apply rD)); exact HO328.out))) (Kd.R_lt (by (with_reducible repeat (first | apply rA | apply rN | apply rD)); exact HO331.out))) (below_size bQ)); have n5_ := aM (below_step bQ hb); clear HO_5; clear HO_9; clear HO328; clear HO331; clear HB; have HO_5 := n0_; have HO_9 := n1_; have HO328 := n2_; have HO331 := n3_; have HO334 := n4_; have HB := n5_; clear n0_ n1_ n2_ n3_ n4_ n5_; (try clear hb); (try clear hb2); (try clear hk); (try clear hi); (try clear ho0)))
                     (try simp only [Act.put, sI, sZ, sS])
                     go_cut [105] (fun v105 wc => ∃ (kq : Nat) (x105_68 : Bool), v105 = .bool x105_68 ∧ Aside0 (laws_FnExactUnionClass.j10 kq t324 t323 x105_68 = some r) ∧ Aside0 (kq ≤ kj63) ∧ Aside0 (Kd.R (Kd.int .i64) 2 wc w.heap.size (fun _ => True) (.slice Ao61 t324.length co61) t324) ∧ Aside0 (Below w.heap.size w wc))
                     case first =>
                      have H := HC69.out
                      clear HC69
                      replace H := Option.bind_eq_some_iff.mp H
                      obtain ⟨t336, A750, H⟩ := H
                      replace H : (if t336 = true then (laws_FnExactUnionClass.j10 kj63 t324 t323 (t335 != t296)) else (laws_FnExactUnionClass.j10 kj63 t324 t323 true)) = some r := H
                      have A75 := aM A750
                      clear A750
                      by_cases c76 : t336 = true
                      ·subst c76
                       have H1 : (laws_FnExactUnionClass.j10 kj63 t324 t323 (t335 != t296)) = some r := by rw [if_pos rfl] at H; exact H
                       clear H
                       have H := H1
                       clear H1
                       have H' := aM H
                       clear H
                       obtain ⟨Ao77, co77, eo77⟩ := Kd.R_slice HO334.out
                       subst eo77
                       obtain ⟨Ao78, co78, eo78⟩ := Kd.R_slice HO_5.out
                       subst eo78
                       go_wp2_with (first | ((with_reducible refine gate_callee (f := 15) rfl ?_); refine goesL_ (some 99) rfl rfl Try.func15 (by kernel_rfl) rfl #[.slice Ao77 t332.length co77, .slice Ao78 t295.length co78] rfl gQ ?_; (with_reducible refine (laws_eqInt64S.calls kj63 _ _ t332 _ _ t295 true _ ?side1 ?side2 ?side3 ?side4 A75.out).mono ?_); (case side1 => repeat (first | exact (Kd.R_reads' HO334.out).2.2 | (with_reducible first | refine cA ?_ _ | refine cN ?_ _ | refine cD ?_))); (case side2 => exact (Kd.R_reads' HO334.out).2.1); (case side3 => repeat (first | exact (Kd.R_reads' HO_5.out).2.2 | (with_reducible first | refine cA ?_ _ | refine cN ?_ _ | refine cD ?_))); (case side4 => exact (Kd.R_reads' HO_5.out).2.1); rintro e w' ⟨rfl, ⟨nd, rfl⟩⟩; refine ⟨_, rfl, ?_⟩))
                       go_meet
                       case rel => exact ⟨_, ((t335 != t296)), rQ, H', ⟨by have := HJ2.out; have := HJ4.out; have := HJ12.out; have := HJ29.out; have := HJ33.out; have := HJ39.out; have := HJ45.out; have := HJ55.out; have := HJ59.out; have := HJ63.out; first | omega | exact Nat.le_refl _⟩, ⟨by (try simp only [hl9_59]); (with_reducible repeat (first | apply rA | apply rN | apply rD)); exact Kd.R_mono HO_9.out (fun _ hk => trivial)⟩, ⟨bQ⟩⟩
                      ·replace c76 := Bool.eq_false_iff.mpr c76
                       subst c76
                       have H1 : (laws_FnExactUnionClass.j10 kj63 t324 t323 true) = some r := by rw [if_neg (show ¬ (false = true) by decide)] at H; exact H
                       clear H
                       have H := H1
                       clear H1
                       have H' := aM H
                       clear H
                       obtain ⟨Ao79, co79, eo79⟩ := Kd.R_slice HO334.out
                       subst eo79
                       obtain ⟨Ao80, co80, eo80⟩ := Kd.R_slice HO_5.out
                       subst eo80
                       go_wp2_with (first | ((with_reducible refine gate_callee (f := 15) rfl ?_); refine goesL_ (some 99) rfl rfl Try.func15 (by kernel_rfl) rfl #[.slice Ao79 t332.length co79, .slice Ao80 t295.length co80] rfl gQ ?_; (with_reducible refine (laws_eqInt64S.calls kj63 _ _ t332 _ _ t295 false _ ?side1 ?side2 ?side3 ?side4 A75.out).mono ?_); (case side1 => repeat (first | exact (Kd.R_reads' HO334.out).2.2 | (with_reducible first | refine cA ?_ _ | refine cN ?_ _ | refine cD ?_))); (case side2 => exact (Kd.R_reads' HO334.out).2.1); (case side3 => repeat (first | exact (Kd.R_reads' HO_5.out).2.2 | (with_reducible first | refine cA ?_ _ | refine cN ?_ _ | refine cD ?_))); (case side4 => exact (Kd.R_reads' HO_5.out).2.1); rintro e w' ⟨rfl, ⟨nd, rfl⟩⟩; refine ⟨_, rfl, ?_⟩))
                       go_meet
                       case rel => exact ⟨_, (true), rQ, H', ⟨by have := HJ2.out; have := HJ4.out; have := HJ12.out; have := HJ29.out; have := HJ33.out; have := HJ39.out; have := HJ45.out; have := HJ55.out; have := HJ59.out; have := HJ63.out; first | omega | exact Nat.le_refl _⟩, ⟨by (try simp only [hl9_59]); (with_reducible repeat (first | apply rA | apply rN | apply rD)); exact Kd.R_mono HO_9.out (fun _ hk => trivial)⟩, ⟨bQ⟩⟩
                     case rest =>
                      clear HC69
                      try clear c1
                      try clear c2
                      try clear p2
                      try clear c3
                      try clear c4
                      try clear c4b0
                      try clear c4b1
                      try clear c4b2
                      try clear c5
                      try clear c6
                      try clear c6b0
                      try clear c6b1
                      try clear c6b2
                      try clear c7
                      try clear c13
                      try clear c15
                      try clear c18
                      try clear c19
                      try clear c20
                      try clear c21
                      try clear c25
                      try clear c31
                      try clear c37
                      try clear c43
                      try clear c49
                      try clear c49b0
                      try clear c49b1
                      try clear c49b2
                      try clear c51
                      try clear c57
                      try clear c63
                      try clear c63b0
                      try clear c63b1
                      try clear c63b2
                      try clear c65
                      try clear c65b0
                      try clear c65b1
                      try clear c65b2
                      try clear c76
                      try clear p2
                      obtain ⟨kq, x105_68, rfl, HA, HJ68, HO_9, HB⟩ := hcut
                      cases kq with
                      | zero => exact absurd HA.out (by simp [laws_FnExactUnionClass.j10])
                      | succ kj68 =>
                       have H := HA.out
                       clear HA
                       simp only [laws_FnExactUnionClass.j10] at H
                       have HC81 := aM H
                       clear H
                       go_upto_if 105 with (fail)
                       go_cut [] (fun wc => ∃ (kq : Nat), Aside0 (laws_FnExactUnionClass.j11 kq t324 t323 = some r) ∧ Aside0 (kq ≤ kj68) ∧ Aside0 (Kd.R (Kd.int .i64) 2 wc w.heap.size (fun _ => True) (.slice Ao61 t324.length co61) t324) ∧ Aside0 (Below w.heap.size w wc))
                       case first =>
                        have H := HC81.out
                        clear HC81
                        by_cases c82 : x105_68 = true
                        ·subst c82
                         have H1 : (some false) = some r := by rw [if_pos rfl] at H; exact H
                         clear H
                         have H := H1
                         clear H1
                         obtain rfl := Option.some.inj H
                         go_wp2
                         go_ret
                         exact ⟨eQ, bQ⟩
                        ·replace c82 := Bool.eq_false_iff.mpr c82
                         subst c82
                         have H1 : (laws_FnExactUnionClass.j11 kj68 t324 t323) = some r := by rw [if_neg (show ¬ (false = true) by decide)] at H; exact H
                         clear H
                         have H := H1
                         clear H1
                         have H' := aM H
                         clear H
                         go_wp2
                         go_meet
                         case rel => exact ⟨_, H', ⟨by have := HJ2.out; have := HJ4.out; have := HJ12.out; have := HJ29.out; have := HJ33.out; have := HJ39.out; have := HJ45.out; have := HJ55.out; have := HJ59.out; have := HJ63.out; have := HJ68.out; first | omega | exact Nat.le_refl _⟩, ⟨by (try simp only [hl9_59]); (with_reducible repeat (first | apply rA | apply rN | apply rD)); exact HO_9.out⟩, ⟨bQ⟩⟩
                       case rest =>
                        clear HC81
                        try clear c1
                        try clear c2
                        try clear p2
                        try clear c3
                        try clear c4
                        try clear c4b0
                        try clear c4b1
                        try clear c4b2
                        try clear c5
                        try clear c6
                        try clear c6b0
                        try clear c6b1
                        try clear c6b2
                        try clear c7
                        try clear c8
                        try clear c13
                        try clear c15
                        try clear c18
                        try clear c19
                        try clear c20
                        try clear c21
                        try clear c25
                        try clear c31
                        try clear c37
                        try clear c43
                        try clear c49
                        try clear c49b0
                        try clear c49b1
                        try clear c49b2
                        try clear c51
                        try clear c57
                        try clear c63
                        try clear c63b0
                        try clear c63b1
                        try clear c63b2
                        try clear c65
                        try clear c65b0
                        try clear c65b1
                        try clear c65b2
                        try clear c76
                        try clear c82
                        try clear p2
                        obtain ⟨kq, HA, HJ80, HO_9, HB⟩ := hcut
                        cases kq with
                        | zero => exact absurd HA.out (by simp [laws_FnExactUnionClass.j11])
                        | succ kj80 =>
                         have H := HA.out
                         clear HA
                         simp only [laws_FnExactUnionClass.j11] at H
                         replace H := Option.bind_eq_some_iff.mp H
                         obtain ⟨t337, A830, H⟩ := H
                         replace H : (if t337 < 0 then (some false) else (if t337 = t323 then (some true) else (some false))) = some r := H
                         have A83 := aM A830
                         clear A830
                         by_cases c84 : t337 < 0
                         ·rw [if_pos c84] at H
                          have c84b0 : decide (t337 < 0) = true := decide_eq_true c84
                          clear c84
                          obtain rfl := Option.some.inj H
                          go_wp2_with (first | ((with_reducible refine gate_callee (f := 19) rfl ?_); refine goesL_ (some 108) rfl rfl Try.func19 (by kernel_rfl) rfl #[.slice Ao61 t324.length co61, .int .i64 1] rfl gQ ?_; (with_reducible refine (laws_heldInt64S.calls kj80 _ _ t324 1 t337 _ ?side1 ?side2 A83.out).mono ?_); (case side1 => repeat (first | exact (Kd.R_reads' HO_9.out).2.2 | (with_reducible first | refine cA ?_ _ | refine cN ?_ _ | refine cD ?_))); (case side2 => exact (Kd.R_reads' HO_9.out).2.1); rintro e w' ⟨rfl, ⟨nd, rfl⟩⟩; refine ⟨_, rfl, ?_⟩))
                          go_ret
                          exact ⟨eQ, bQ⟩
                         ·rw [if_neg c84] at H
                          have c84b0 : decide (t337 < 0) = false := decide_eq_false c84
                          clear c84
                          by_cases c85 : t337 = t323
                          ·rw [if_pos c85] at H
                           have c85b0 : (t337 == t323) = true := beq_iff_eq.mpr c85
                           have c85b1 : (t337 != t323) = false := bne_eq_false_iff_eq.mpr c85
                           clear c85
                           obtain rfl := Option.some.inj H
                           go_wp2_with (first | ((with_reducible refine gate_callee (f := 19) rfl ?_); refine goesL_ (some 108) rfl rfl Try.func19 (by kernel_rfl) rfl #[.slice Ao61 t324.length co61, .int .i64 1] rfl gQ ?_; (with_reducible refine (laws_heldInt64S.calls kj80 _ _ t324 1 t337 _ ?side1 ?side2 A83.out).mono ?_); (case side1 => repeat (first | exact (Kd.R_reads' HO_9.out).2.2 | (with_reducible first | refine cA ?_ _ | refine cN ?_ _ | refine cD ?_))); (case side2 => exact (Kd.R_reads' HO_9.out).2.1); rintro e w' ⟨rfl, ⟨nd, rfl⟩⟩; refine ⟨_, rfl, ?_⟩))
                           go_ret
                           exact ⟨eQ, bQ⟩
                          ·rw [if_neg c85] at H
                           have c85b0 : (t337 == t323) = false := beq_eq_false_iff_ne.mpr c85
                           have c85b1 : (t337 != t323) = true := bne_iff_ne.mpr c85
                           obtain rfl := Option.some.inj H
                           go_wp2_with (first | ((with_reducible refine gate_callee (f := 19) rfl ?_); refine goesL_ (some 108) rfl rfl Try.func19 (by kernel_rfl) rfl #[.slice Ao61 t324.length co61, .int .i64 1] rfl gQ ?_; (with_reducible refine (laws_heldInt64S.calls kj80 _ _ t324 1 t337 _ ?side1 ?side2 A83.out).mono ?_); (case side1 => repeat (first | exact (Kd.R_reads' HO_9.out).2.2 | (with_reducible first | refine cA ?_ _ | refine cN ?_ _ | refine cD ?_))); (case side2 => exact (Kd.R_reads' HO_9.out).2.1); rintro e w' ⟨rfl, ⟨nd, rfl⟩⟩; refine ⟨_, rfl, ?_⟩))
                           go_ret
                           exact ⟨eQ, bQ⟩

/-- THE ONE PURE STATEMENT of laws_FnExactUnionClass: yours. -/
def laws_FnExactUnionClass.Pure : Prop := ∀ (l0 : List Int) (l1 : List Int), l0.length ≤ maxLen → l0.length * 8 ≤ 140737488351232 → (∀ x ∈ l0, (Lit.int .i64 x).wf = true) → l1.length ≤ maxLen → l1.length * 8 ≤ 140737488351232 → (∀ x ∈ l1, (Lit.int .i64 x).wf = true) → ∃ k, laws_FnExactUnionClass.f k l0 l1 = some true
theorem laws_FnExactUnionClass.walk (P : laws_FnExactUnionClass.Pure) (a0 : Option Addr) (len0 cap0 : Nat) (z0 : List Int) (a1 : Option Addr) (len1 cap1 : Nat) (z1 : List Int) (w : World) (w0 : (a0 = none ∧ len0 = 0 ∧ cap0 = 0 ∧ z0 = []) ∨ ∃ x, a0 = some x ∧ len0 ≤ cap0 ∧ cap0 ≤ maxLen ∧ z0.length = cap0 ∧ (∀ i, i < z0.length → w.cell? (x.add i) = some (.int .i64 (z0.getD i 0))) ∧ ∀ n ∈ z0, (Lit.int .i64 n).wf = true) (y0 : len0 * 8 ≤ 140737488351232) (w1 : (a1 = none ∧ len1 = 0 ∧ cap1 = 0 ∧ z1 = []) ∨ ∃ x, a1 = some x ∧ len1 ≤ cap1 ∧ cap1 ≤ maxLen ∧ z1.length = cap1 ∧ (∀ i, i < z1.length → w.cell? (x.add i) = some (.int .i64 (z1.getD i 0))) ∧ ∀ n ∈ z1, (Lit.int .i64 n).wf = true) (y1 : len1 * 8 ≤ 140737488351232) :
  Calls Try.prog 5 #[.slice a0 len0 cap0, .slice a1 len1 cap1] w fun e w' => e = .returned (.bool true) ∧ Below w.heap.size w w' := by
 obtain ⟨l0, rfl, hr0, hm0, hw0, hc0⟩ := ReadsInt.ofRowC w0
 obtain ⟨l1, rfl, hr1, hm1, hw1, hc1⟩ := ReadsInt.ofRowC w1
 obtain ⟨k, h⟩ := P l0 l1 hm0 y0 hw0 hm1 y1 hw1
 refine (laws_FnExactUnionClass.calls k _ _ l0 _ _ l1 true w (Kd.C_of_reads (d := (0 : Int)) (h1 := fun _ => rfl) hr0) hc0 (Kd.C_of_reads (d := (0 : Int)) (h1 := fun _ => rfl) hr1) hc1 h).mono ?_
 rintro e w' ⟨rfl, hd⟩
 exact ⟨rfl, hd⟩

end Go.Proofs.Ytdahcapolipnbaa.QFnExactUnionClass
