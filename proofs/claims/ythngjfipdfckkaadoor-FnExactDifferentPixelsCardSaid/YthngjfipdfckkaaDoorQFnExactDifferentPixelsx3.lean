/- What some Go functions answer, each as a Lean function, and that the machine answers so: written by a program of this session out of the translation. -/
import Derived.Test.YthngjfipdfckkaaDoorQFnExactDifferentPixelsx0
import Derived.Test.YthngjfipdfckkaaDoorQFnExactDifferentPixelsx1
namespace Go.Proofs.YthngjfipdfckkaaDoor.QFnExactDifferentPixels
open Go.RowKit Go.Proofs.YthngjfipdfckkaaDoorW.PrintWords Go.Proofs.YthngjfipdfckkaaDoorW.PrintLast Go.Proofs.YthngjfipdfckkaaDoorW.PrintMore Go.Proofs.YthngjfipdfckkaaDoor.Rp
attribute [local go_sem] max2_int min2_int max_two min_two max_three min_three max_four min_four   -- for this text's walks alone
set_option linter.unusedVariables false
set_option linter.unusedSimpArgs false

/-! ### spec_l22Ok_at: function 27 -/
mutual
abbrev mkspec_l22Ok_at_0 : Array Bool := #[ff,ff,ff,ff,ff,ff,ff,ff,ff,ff,ff,ff,ff,ff,ff,ff,ff,ff,ff,ff,ff,ff,ff,ff,ff,ff,ff,ff,ff,ff,ff,ff,ff,ff,ff,ff,ff,ff,ff,ff,ff,ff,ff,ff]
abbrev mkspec_l22Ok_at_1 : Array Bool := #[tt,ff,ff,ff,ff,ff,ff,ff,ff,ff,ff,ff,ff,ff,ff,ff,ff,ff,ff,ff,ff,ff,ff,ff,ff,ff,ff,ff,ff,ff,ff,ff,ff,ff,ff,ff,ff,ff,ff,ff,ff,ff,ff,ff]
abbrev mkspec_l22Ok_at_2 : Array Bool := #[tt,tt,ff,ff,ff,ff,ff,ff,ff,ff,ff,ff,ff,ff,ff,ff,ff,ff,ff,ff,ff,ff,ff,ff,ff,ff,ff,ff,ff,ff,ff,ff,ff,ff,ff,ff,ff,ff,ff,ff,ff,ff,ff,ff]
abbrev mkspec_l22Ok_at_3 : Array Bool := #[tt,tt,tt,ff,ff,ff,ff,ff,ff,ff,ff,ff,ff,ff,ff,ff,ff,ff,ff,ff,ff,ff,ff,ff,ff,ff,ff,ff,ff,ff,ff,ff,ff,ff,ff,ff,ff,ff,ff,ff,ff,ff,ff,ff]
abbrev mkspec_l22Ok_at_4 : Array Bool := #[tt,tt,tt,tt,ff,ff,ff,ff,ff,ff,ff,ff,ff,ff,ff,ff,ff,ff,ff,ff,ff,ff,ff,ff,ff,ff,ff,ff,ff,ff,ff,ff,ff,ff,ff,ff,ff,ff,ff,ff,ff,ff,ff,ff]
abbrev mkspec_l22Ok_at_5 : Array Bool := #[tt,tt,tt,tt,tt,ff,ff,ff,ff,ff,ff,ff,ff,ff,ff,ff,ff,ff,ff,ff,ff,ff,ff,ff,ff,ff,ff,ff,ff,ff,ff,ff,ff,ff,ff,ff,ff,ff,ff,ff,ff,ff,ff,ff]
abbrev mkspec_l22Ok_at_6 : Array Bool := #[tt,tt,tt,tt,tt,tt,ff,ff,ff,ff,ff,ff,ff,ff,ff,ff,ff,ff,ff,ff,ff,ff,ff,ff,ff,ff,ff,ff,ff,ff,ff,ff,ff,ff,ff,ff,ff,ff,ff,ff,ff,ff,ff,ff]
abbrev mkspec_l22Ok_at_7 : Array Bool := #[tt,tt,tt,tt,tt,tt,tt,ff,ff,ff,ff,ff,ff,ff,ff,ff,ff,ff,ff,ff,ff,ff,ff,ff,ff,ff,ff,ff,ff,ff,ff,ff,ff,ff,ff,ff,ff,ff,ff,ff,ff,ff,ff,ff]
abbrev mkspec_l22Ok_at_8 : Array Bool := #[tt,tt,tt,tt,tt,tt,tt,tt,ff,ff,ff,ff,ff,ff,ff,ff,ff,ff,ff,ff,ff,ff,ff,ff,ff,ff,ff,ff,ff,ff,ff,ff,ff,ff,ff,ff,ff,ff,ff,ff,ff,ff,ff,ff]
abbrev mkspec_l22Ok_at_9 : Array Bool := #[tt,tt,tt,tt,tt,tt,tt,tt,tt,ff,ff,ff,ff,ff,ff,ff,ff,ff,ff,ff,ff,ff,ff,ff,ff,ff,ff,ff,ff,ff,ff,ff,ff,ff,ff,ff,ff,ff,ff,ff,ff,ff,ff,ff]
abbrev mkspec_l22Ok_at_10 : Array Bool := #[tt,tt,tt,tt,tt,tt,tt,tt,tt,tt,ff,ff,ff,ff,ff,ff,ff,ff,ff,ff,ff,ff,ff,ff,ff,ff,ff,ff,ff,ff,ff,ff,ff,ff,ff,ff,ff,ff,ff,ff,ff,ff,ff,ff]
abbrev mkspec_l22Ok_at_11 : Array Bool := #[tt,tt,tt,tt,tt,tt,tt,tt,tt,tt,tt,ff,ff,ff,ff,ff,ff,ff,ff,ff,ff,ff,ff,ff,ff,ff,ff,ff,ff,ff,ff,ff,ff,ff,ff,ff,ff,ff,ff,ff,ff,ff,ff,ff]
abbrev mkspec_l22Ok_at_12 : Array Bool := #[tt,tt,tt,tt,tt,tt,tt,tt,tt,tt,tt,tt,ff,ff,ff,ff,ff,ff,ff,ff,ff,ff,ff,ff,ff,ff,ff,ff,ff,ff,ff,ff,ff,ff,ff,ff,ff,ff,ff,ff,ff,ff,ff,ff]
abbrev mkspec_l22Ok_at_13 : Array Bool := #[tt,tt,tt,tt,tt,tt,tt,tt,tt,tt,tt,tt,tt,ff,ff,ff,ff,ff,ff,ff,ff,ff,ff,ff,ff,ff,ff,ff,ff,ff,ff,ff,ff,ff,ff,ff,ff,ff,ff,ff,ff,ff,ff,ff]
abbrev mkspec_l22Ok_at_14 : Array Bool := #[tt,tt,tt,tt,tt,tt,tt,tt,tt,tt,tt,tt,tt,tt,ff,ff,ff,ff,ff,ff,ff,ff,ff,ff,ff,ff,ff,ff,ff,ff,ff,ff,ff,ff,ff,ff,ff,ff,ff,ff,ff,ff,ff,ff]
abbrev mkspec_l22Ok_at_15 : Array Bool := #[tt,tt,tt,tt,tt,tt,tt,tt,tt,tt,tt,tt,tt,tt,tt,ff,ff,ff,ff,ff,ff,ff,ff,ff,ff,ff,ff,ff,ff,ff,ff,ff,ff,ff,ff,ff,ff,ff,ff,ff,ff,ff,ff,ff]
abbrev mkspec_l22Ok_at_16 : Array Bool := #[tt,tt,tt,tt,tt,tt,tt,tt,tt,tt,tt,tt,tt,tt,tt,tt,ff,ff,ff,ff,ff,ff,ff,ff,ff,ff,ff,ff,ff,ff,ff,ff,ff,ff,ff,ff,ff,ff,ff,ff,ff,ff,ff,ff]
abbrev mkspec_l22Ok_at_17 : Array Bool := #[tt,tt,tt,tt,tt,tt,tt,tt,tt,tt,tt,tt,tt,tt,tt,tt,tt,ff,ff,ff,ff,ff,ff,ff,ff,ff,ff,ff,ff,ff,ff,ff,ff,ff,ff,ff,ff,ff,ff,ff,ff,ff,ff,ff]
abbrev mkspec_l22Ok_at_18 : Array Bool := #[tt,tt,tt,tt,tt,tt,tt,tt,tt,tt,tt,tt,tt,tt,tt,tt,tt,tt,ff,ff,ff,ff,ff,ff,ff,ff,ff,ff,ff,ff,ff,ff,ff,ff,ff,ff,ff,ff,ff,ff,ff,ff,ff,ff]
abbrev mkspec_l22Ok_at_19 : Array Bool := #[tt,tt,tt,tt,tt,tt,tt,tt,tt,tt,tt,tt,tt,tt,tt,tt,tt,tt,tt,ff,ff,ff,ff,ff,ff,ff,ff,ff,ff,ff,ff,ff,ff,ff,ff,ff,ff,ff,ff,ff,ff,ff,ff,ff]
abbrev mkspec_l22Ok_at_20 : Array Bool := #[tt,tt,tt,tt,tt,tt,tt,tt,tt,tt,tt,tt,tt,tt,tt,tt,tt,tt,tt,tt,ff,ff,ff,ff,ff,ff,ff,ff,ff,ff,ff,ff,ff,ff,ff,ff,ff,ff,ff,ff,ff,ff,ff,ff]
abbrev mkspec_l22Ok_at_21 : Array Bool := #[tt,tt,tt,tt,tt,tt,tt,tt,tt,tt,tt,tt,tt,tt,tt,tt,tt,tt,tt,tt,tt,ff,ff,ff,ff,ff,ff,ff,ff,ff,ff,ff,ff,ff,ff,ff,ff,ff,ff,ff,ff,ff,ff,ff]
abbrev mkspec_l22Ok_at_22 : Array Bool := #[tt,tt,tt,tt,tt,tt,tt,tt,tt,tt,tt,tt,tt,tt,tt,tt,tt,tt,tt,tt,tt,tt,ff,ff,ff,ff,ff,ff,ff,ff,ff,ff,ff,ff,ff,ff,ff,ff,ff,ff,ff,ff,ff,ff]
abbrev mkspec_l22Ok_at_23 : Array Bool := #[tt,tt,tt,tt,tt,tt,tt,tt,tt,tt,tt,tt,tt,tt,tt,tt,tt,tt,tt,tt,tt,tt,tt,ff,ff,ff,ff,ff,ff,ff,ff,ff,ff,ff,ff,ff,ff,ff,ff,ff,ff,ff,ff,ff]
abbrev mkspec_l22Ok_at_24 : Array Bool := #[tt,tt,tt,tt,tt,tt,tt,tt,tt,tt,tt,tt,tt,tt,tt,tt,tt,tt,tt,tt,tt,tt,tt,tt,ff,ff,ff,ff,ff,ff,ff,ff,ff,ff,ff,ff,ff,ff,ff,ff,ff,ff,ff,ff]
abbrev mkspec_l22Ok_at_25 : Array Bool := #[tt,tt,tt,tt,tt,tt,tt,tt,tt,tt,tt,tt,tt,tt,tt,tt,tt,tt,tt,tt,tt,tt,tt,tt,tt,ff,ff,ff,ff,ff,ff,ff,ff,ff,ff,ff,ff,ff,ff,ff,ff,ff,ff,ff]
abbrev mkspec_l22Ok_at_26 : Array Bool := #[tt,tt,tt,tt,tt,tt,tt,tt,tt,tt,tt,tt,tt,tt,tt,tt,tt,tt,tt,tt,tt,tt,tt,tt,tt,tt,ff,ff,ff,ff,ff,ff,ff,ff,ff,ff,ff,ff,ff,ff,ff,ff,ff,ff]
abbrev mkspec_l22Ok_at_27 : Array Bool := #[tt,tt,tt,tt,tt,tt,tt,tt,tt,tt,tt,tt,tt,tt,tt,tt,tt,tt,tt,tt,tt,tt,tt,tt,tt,tt,tt,ff,ff,ff,ff,ff,ff,ff,ff,ff,ff,ff,ff,ff,ff,ff,ff,ff]
abbrev mkspec_l22Ok_at_28 : Array Bool := #[tt,tt,tt,tt,tt,tt,tt,tt,tt,tt,tt,tt,tt,tt,tt,tt,tt,tt,tt,tt,tt,tt,tt,tt,tt,tt,tt,tt,ff,ff,ff,ff,ff,ff,ff,ff,ff,ff,ff,ff,ff,ff,ff,ff]
abbrev mkspec_l22Ok_at_29 : Array Bool := #[tt,tt,tt,tt,tt,tt,tt,tt,tt,tt,tt,tt,tt,tt,tt,tt,tt,tt,tt,tt,tt,tt,tt,tt,tt,tt,tt,tt,tt,ff,ff,ff,ff,ff,ff,ff,ff,ff,ff,ff,ff,ff,ff,ff]
abbrev mkspec_l22Ok_at_30 : Array Bool := #[tt,tt,tt,tt,tt,tt,tt,tt,tt,tt,tt,tt,tt,tt,tt,tt,tt,tt,tt,tt,tt,tt,tt,tt,tt,tt,tt,tt,tt,tt,ff,ff,ff,ff,ff,ff,ff,ff,ff,ff,ff,ff,ff,ff]
abbrev mkspec_l22Ok_at_31 : Array Bool := #[tt,tt,tt,tt,tt,tt,tt,tt,tt,tt,tt,tt,tt,tt,tt,tt,tt,tt,tt,tt,tt,tt,tt,tt,tt,tt,tt,tt,tt,tt,tt,ff,ff,ff,ff,ff,ff,ff,ff,ff,ff,ff,ff,ff]
abbrev mkspec_l22Ok_at_32 : Array Bool := #[tt,tt,tt,tt,tt,tt,tt,tt,tt,tt,tt,tt,tt,tt,tt,tt,tt,tt,tt,tt,tt,tt,tt,tt,tt,tt,tt,tt,tt,tt,tt,tt,ff,ff,ff,ff,ff,ff,ff,ff,ff,ff,ff,ff]
abbrev mkspec_l22Ok_at_33 : Array Bool := #[tt,tt,tt,tt,tt,tt,tt,tt,tt,tt,tt,tt,tt,tt,tt,tt,tt,tt,tt,tt,tt,tt,tt,tt,tt,tt,tt,tt,tt,tt,tt,tt,tt,ff,ff,ff,ff,ff,ff,ff,ff,ff,ff,ff]
abbrev mkspec_l22Ok_at_34 : Array Bool := #[tt,tt,tt,tt,tt,tt,tt,tt,tt,tt,tt,tt,tt,tt,tt,tt,tt,tt,tt,tt,tt,tt,tt,tt,tt,tt,tt,tt,tt,tt,tt,tt,tt,tt,ff,ff,ff,ff,ff,ff,ff,ff,ff,ff]
abbrev mkspec_l22Ok_at_35 : Array Bool := #[tt,tt,tt,tt,tt,tt,tt,tt,tt,tt,tt,tt,tt,tt,tt,tt,tt,tt,tt,tt,tt,tt,tt,tt,tt,tt,tt,tt,tt,tt,tt,tt,tt,tt,tt,ff,ff,ff,ff,ff,ff,ff,ff,ff]
abbrev mkspec_l22Ok_at_36 : Array Bool := #[tt,tt,tt,tt,tt,tt,tt,tt,tt,tt,tt,tt,tt,tt,tt,tt,tt,tt,tt,tt,tt,tt,tt,tt,tt,tt,tt,tt,tt,tt,tt,tt,tt,tt,ff,ff,tt,ff,ff,ff,ff,ff,ff,ff]
abbrev mkspec_l22Ok_at_37 : Array Bool := #[tt,tt,tt,tt,tt,tt,tt,tt,tt,tt,tt,tt,tt,tt,tt,tt,tt,tt,tt,tt,tt,tt,tt,tt,tt,tt,tt,tt,tt,tt,tt,tt,tt,tt,tt,tt,ff,ff,ff,ff,ff,ff,ff,ff]
abbrev mkspec_l22Ok_at_38 : Array Bool := #[tt,tt,tt,tt,tt,tt,tt,tt,tt,tt,tt,tt,tt,tt,tt,tt,tt,tt,tt,tt,tt,tt,tt,tt,tt,tt,tt,tt,tt,tt,tt,tt,tt,tt,ff,ff,tt,tt,ff,ff,ff,ff,ff,ff]
abbrev mkspec_l22Ok_at_39 : Array Bool := #[tt,tt,tt,tt,tt,tt,tt,tt,tt,tt,tt,tt,tt,tt,tt,tt,tt,tt,tt,tt,tt,tt,tt,tt,tt,tt,tt,tt,tt,tt,tt,tt,tt,tt,tt,tt,tt,ff,ff,ff,ff,ff,ff,ff]
abbrev mkspec_l22Ok_at_40 : Array Bool := #[tt,tt,tt,tt,tt,tt,tt,tt,tt,tt,tt,tt,tt,tt,tt,tt,tt,tt,tt,tt,tt,tt,tt,tt,tt,tt,tt,tt,tt,tt,tt,tt,tt,tt,ff,ff,tt,tt,tt,ff,ff,ff,ff,ff]
abbrev mkspec_l22Ok_at_41 : Array Bool := #[tt,tt,tt,tt,tt,tt,tt,tt,tt,tt,tt,tt,tt,tt,tt,tt,tt,tt,tt,tt,tt,tt,tt,tt,tt,tt,tt,tt,tt,tt,tt,tt,tt,tt,tt,tt,tt,tt,ff,ff,ff,ff,ff,ff]
abbrev mkspec_l22Ok_at_42 : Array Bool := #[tt,tt,tt,tt,tt,tt,tt,tt,tt,tt,tt,tt,tt,tt,tt,tt,tt,tt,tt,tt,tt,tt,tt,tt,tt,tt,tt,tt,tt,tt,tt,tt,tt,tt,tt,ff,tt,tt,tt,ff,ff,ff,ff,ff]
abbrev mkspec_l22Ok_at_43 : Array Bool := #[tt,tt,tt,tt,tt,tt,tt,tt,tt,tt,tt,tt,tt,tt,tt,tt,tt,tt,tt,tt,tt,tt,tt,tt,tt,tt,tt,tt,tt,tt,tt,tt,tt,tt,tt,tt,tt,tt,tt,ff,ff,ff,ff,ff]
abbrev mkspec_l22Ok_at_44 : Array Bool := #[tt,tt,tt,tt,tt,tt,tt,tt,tt,tt,tt,tt,tt,tt,tt,tt,tt,tt,tt,tt,tt,tt,tt,tt,tt,tt,tt,tt,tt,tt,tt,tt,tt,tt,tt,tt,tt,tt,tt,tt,ff,ff,ff,ff]
abbrev mkspec_l22Ok_at_45 : Array Bool := #[tt,tt,tt,tt,tt,tt,tt,tt,tt,tt,tt,tt,tt,tt,tt,tt,tt,tt,tt,tt,tt,tt,tt,tt,tt,tt,tt,tt,tt,tt,tt,tt,tt,tt,tt,tt,tt,tt,tt,tt,tt,ff,ff,ff]
abbrev mkspec_l22Ok_at_46 : Array Bool := #[tt,tt,tt,tt,tt,tt,tt,tt,tt,tt,tt,tt,tt,tt,tt,tt,tt,tt,tt,tt,tt,tt,tt,tt,tt,tt,tt,tt,tt,tt,tt,tt,tt,tt,tt,tt,tt,tt,tt,tt,tt,tt,ff,ff]
abbrev mkspec_l22Ok_at_47 : Array Bool := #[tt,tt,tt,tt,tt,tt,tt,tt,tt,tt,tt,tt,tt,tt,tt,tt,tt,tt,tt,tt,tt,tt,tt,tt,tt,tt,tt,tt,tt,tt,tt,tt,tt,tt,tt,tt,tt,tt,tt,tt,tt,tt,tt,ff]
abbrev mkspec_l22Ok_at_48 : Array Bool := #[tt,tt,tt,tt,tt,tt,tt,tt,tt,tt,tt,tt,tt,tt,tt,tt,tt,tt,tt,tt,tt,tt,tt,tt,tt,tt,tt,tt,tt,tt,tt,tt,tt,tt,tt,tt,tt,tt,tt,tt,tt,tt,tt,tt]
abbrev mkspec_l22Ok_at_49 : Array Bool := #[ff,ff,ff,ff,ff,ff,ff,ff,ff,ff,ff,ff,ff]
abbrev mkspec_l22Ok_at_50 : Array Bool := #[tt,ff,ff,ff,ff,ff,ff,ff,ff,ff,ff,ff,ff]
abbrev mkspec_l22Ok_at_51 : Array Bool := #[tt,tt,ff,ff,ff,ff,ff,ff,ff,ff,ff,ff,ff]
abbrev mkspec_l22Ok_at_52 : Array Bool := #[tt,tt,tt,ff,ff,ff,ff,ff,ff,ff,ff,ff,ff]
abbrev mkspec_l22Ok_at_53 : Array Bool := #[tt,tt,tt,ff,tt,ff,ff,ff,ff,ff,ff,ff,ff]
abbrev mkspec_l22Ok_at_54 : Array Bool := #[tt,tt,tt,ff,tt,ff,ff,tt,ff,ff,ff,ff,ff]
abbrev mkspec_l22Ok_at_55 : Array Bool := #[tt,tt,tt,ff,tt,ff,ff,tt,tt,ff,ff,ff,ff]
abbrev mkspec_l22Ok_at_56 : Array Bool := #[tt,tt,tt,ff,tt,ff,ff,tt,tt,tt,ff,ff,ff]
abbrev mkspec_l22Ok_at_57 : Array Bool := #[tt,tt,tt,tt,tt,ff,ff,tt,tt,tt,ff,ff,ff]
abbrev mkspec_l22Ok_at_58 : Array Bool := #[tt,tt,tt,tt,tt,tt,ff,tt,tt,tt,ff,ff,ff]
abbrev mkspec_l22Ok_at_59 : Array Bool := #[tt,tt,tt,tt,tt,tt,tt,tt,tt,tt,ff,ff,ff]
abbrev mkspec_l22Ok_at_60 : Array Bool := #[tt,tt,tt,tt,tt,tt,tt,tt,tt,tt,tt,ff,ff]
abbrev mkspec_l22Ok_at_61 : Array Bool := #[tt,tt,tt,tt,tt,tt,tt,tt,tt,tt,tt,tt,ff]
abbrev mkspec_l22Ok_at_62 : Array Bool := #[tt,tt,tt,tt,tt,tt,tt,tt,tt,tt,tt,tt,tt]
def spec_l22Ok_at.j0 : Nat → Bool → List (S27) → Int → Option (Bool)
 | 0, _, _, _ => none
 | k + 1, x47, x1000, x1001 => if x47 = true then (some false) else (spec_l22Ok_at.l0 k 0 x1000 x1001)
def spec_l22Ok_at.l0 : Nat → Int → List (S27) → Int → Option (Bool)
 | 0, _, _, _ => none
 | k + 1, x3, x1000, x1001 => if x3 < (((rd_T27 x1000 x1001).f3).length : Int) then (if 0 ≤ x3 then ((spec_l22Row.f k (rdOf ByteArray.empty ((rd_T27 x1000 x1001).f3) x3) ((rd_T27 x1000 x1001).f2)).bind fun t151 => (if t151 = true then (spec_l22Ok_at.l0 k (wrap64 (x3 + 1)) x1000 x1001) else (some false))) else (none)) else (some true)
end
def spec_l22Ok_at.f (k : Nat) (l0_0 : List (S27)) (a0_1 : Int) : Option (Bool) := (spec_l00In.f ((rd_T27 l0_0 a0_1).f0) (-1048576) 1048576).bind fun t139 => (if t139 = true then ((spec_l00In.f ((rd_T27 l0_0 a0_1).f1) (-1048576) 1048576).bind fun t141 => (if t141 = true then ((spec_l00In.f ((rd_T27 l0_0 a0_1).f2) 0 128).bind fun t143 => (if t143 = true then (if (((rd_T27 l0_0 a0_1).f3).length : Int) > 128 then (spec_l22Ok_at.j0 k true l0_0 a0_1) else (spec_l22Ok_at.j0 k ((((rd_T27 l0_0 a0_1).f2) == 0) != ((((rd_T27 l0_0 a0_1).f3).length : Int) == 0)) l0_0 a0_1)) else (spec_l22Ok_at.j0 k true l0_0 a0_1))) else (spec_l22Ok_at.j0 k true l0_0 a0_1))) else (spec_l22Ok_at.j0 k true l0_0 a0_1))
theorem spec_l22Ok_at.mono_l : ∀ k, (∀ y0 y1 y2, LeO (spec_l22Ok_at.j0 k y0 y1 y2) (spec_l22Ok_at.j0 (k + 1) y0 y1 y2)) ∧ (∀ y0 y1 y2, LeO (spec_l22Ok_at.l0 k y0 y1 y2) (spec_l22Ok_at.l0 (k + 1) y0 y1 y2))
 | 0 => ⟨fun _ _ _ r h => by simp [spec_l22Ok_at.j0] at h, fun _ _ _ r h => by simp [spec_l22Ok_at.l0] at h⟩
 | k + 1 => by
  obtain ⟨ih0, ih1⟩ := spec_l22Ok_at.mono_l k
  refine ⟨?_, ?_⟩
  ·intro y0 y1 y2
   unfold spec_l22Ok_at.j0
   repeat' first
   | (with_reducible exact ih0 _ _ _)
   | (with_reducible exact ih1 _ _ _)
   | (with_reducible exact spec_l22Row.mono _ _ _)
   | (with_reducible exact LeO.refl _)
   | (with_reducible exact LeO.none _)
   | (with_reducible refine LeO.ite ?_ ?_)
   | (with_reducible refine LeO.bind ?_ (fun _ => ?_))
   | exact ih0 _ _ _
   | exact ih1 _ _ _
   | exact spec_l22Row.mono _ _ _
   | exact LeO.none _
   | refine LeO.ite ?_ ?_
   | refine LeO.bind ?_ (fun _ => ?_)
  ·intro y0 y1 y2
   unfold spec_l22Ok_at.l0
   repeat' first
   | (with_reducible exact ih0 _ _ _)
   | (with_reducible exact ih1 _ _ _)
   | (with_reducible exact spec_l22Row.mono _ _ _)
   | (with_reducible exact LeO.refl _)
   | (with_reducible exact LeO.none _)
   | (with_reducible refine LeO.ite ?_ ?_)
   | (with_reducible refine LeO.bind ?_ (fun _ => ?_))
   | exact ih0 _ _ _
   | exact ih1 _ _ _
   | exact spec_l22Row.mono _ _ _
   | exact LeO.none _
   | refine LeO.ite ?_ ?_
   | refine LeO.bind ?_ (fun _ => ?_)
theorem spec_l22Ok_at.mono : ∀ a0 a1 k, LeO (spec_l22Ok_at.f k a0 a1) (spec_l22Ok_at.f (k + 1) a0 a1) := by
 intro a0 a1 k
 obtain ⟨ih0, ih1⟩ := spec_l22Ok_at.mono_l k
 unfold spec_l22Ok_at.f
 repeat' first
   | (with_reducible exact ih0 _ _ _)
   | (with_reducible exact ih1 _ _ _)
   | (with_reducible exact spec_l22Row.mono _ _ _)
   | (with_reducible exact LeO.refl _)
   | (with_reducible exact LeO.none _)
   | (with_reducible refine LeO.ite ?_ ?_)
   | (with_reducible refine LeO.bind ?_ (fun _ => ?_))
   | exact ih0 _ _ _
   | exact ih1 _ _ _
   | exact spec_l22Row.mono _ _ _
   | exact LeO.none _
   | refine LeO.ite ?_ ?_
   | refine LeO.bind ?_ (fun _ => ?_)
def spec_l22Ok_at.T1 : Bool × List (List Nat × List Nat) := (true, [([], []), ([0], [0]), ([1], [1]), ([2], [2]), ([3], [3]), ([4], [4]), ([5, 4], [5]), ([6], [6]), ([7, 6], [6, 7]), ([8, 6], [6, 8]), ([9, 6], [6, 9]), ([10, 6, 6], [6, 10]), ([11, 6], [6, 11]), ([6, 12], [6, 12]), ([13, 11], [13]), ([14], [14]), ([15, 14], [14, 15]), ([16, 14], [14, 16]), ([17, 14], [14, 17]), ([18, 14, 14], [14, 18]), ([19, 14], [14, 19]), ([14, 20], [14, 20]), ([21, 19], [21]), ([22], [22]), ([23, 22], [22, 23]), ([24, 22], [22, 24]), ([25, 22], [22, 25]), ([26, 22], [22, 26]), ([27, 22], [22, 27]), ([22, 28], [22, 28]), ([29, 22], [29]), ([30], [30]), ([31, 30], [30, 31]), ([32, 30], [30, 32]), ([33, 30], [30, 33]), ([34, 30], [30, 34]), ([30], [30]), ([36, 30], [30, 36]), ([37, 30], [30, 37]), ([38, 30], [30, 38]), ([39, 30], [30, 39]), ([40, 30], [30, 40]), ([35, 41, 30], [30, 35, 41]), ([30, 42], [30, 42])])
def spec_l22Ok_at.B1 : List Nat := [0, 1, 3, 7, 15, 31, 63, 127, 255, 511, 1023, 2047, 4095, 8191, 16383, 32767, 65535, 131071, 262143, 524287, 1048575, 2097151, 4194303, 8388607, 16777215, 33554431, 67108863, 134217727, 268435455, 536870911, 1073741823, 2147483647, 4294967295, 8589934591, 17179869183, 34359738367, 2147483647, 70866960383, 208305913855, 483183820799, 1032939634687, 2132451262463, 4398046511103, 8796093022207]
theorem spec_l22Ok_at.tab1 : rtab .any (opsOf Tryd.f27 1) = spec_l22Ok_at.T1 := by kernel_rfl
theorem spec_l22Ok_at.bits1 : waitsOk spec_l22Ok_at.T1.2 spec_l22Ok_at.B1 = true := by kernel_rfl
def spec_l22Ok_at.T6 : Bool × List (List Nat × List Nat) := (true, [([], []), ([0], [0]), ([1], [1]), ([2], [2]), ([], []), ([3, 4], [3, 4]), ([5], [5]), ([], []), ([7], [7]), ([8], [8]), ([9], [9]), ([6, 10], [6, 10]), ([11], [11])])
def spec_l22Ok_at.B6 : List Nat := [0, 1, 3, 7, 0, 31, 63, 0, 128, 384, 896, 2047, 4095]
theorem spec_l22Ok_at.tab6 : rtab .any (opsOf Tryd.f27 6) = spec_l22Ok_at.T6 := by kernel_rfl
theorem spec_l22Ok_at.bits6 : waitsOk spec_l22Ok_at.T6.2 spec_l22Ok_at.B6 = true := by kernel_rfl
set_option maxHeartbeats 8000000 in
set_option maxRecDepth 100000 in
theorem spec_l22Ok_at.calls (k : Nat) (p0_ : Addr) (l0_0 : List (S27)) (a0_1 : Int) (r : Bool) (w : World) (hP0_ : RPtr k27 ((a0_1 : Int).toNat * 4) w p0_ l0_0 a0_1) (h : spec_l22Ok_at.f k l0_0 a0_1 = some r) :
  Calls Tryd.prog 27 #[.pointer (some p0_)] w fun e w' => e = .returned (.bool r) ∧ Below w.heap.size w w' := by
 obtain ⟨ad0_, rfl, hr0_0, hi0_, hj0_⟩ := hP0_
 have hc0_0 : l0_0.length ≤ l0_0.length := Nat.le_refl _
 replace hi0_ := decide_eq_true hi0_
 replace hj0_ := decide_eq_true hj0_
 obtain ⟨ad9000, A9000_3, c9000_3, e9000, HX9000_0, HX9000_1, HX9000_2, HX9000_3, HC9000_3, HR9000_3⟩ := at_T27 hr0_0 a0_1 (of_decide_eq_true hi0_) (of_decide_eq_true hj0_)
 obtain rfl : ad0_ = ad9000 := (by injection e9000)
 replace HX9000_0 := aM HX9000_0
 replace HX9000_1 := aM HX9000_1
 replace HX9000_2 := aM HX9000_2
 replace HX9000_3 := aM HX9000_3
 replace HC9000_3 := aM HC9000_3
 replace HR9000_3 := aM HR9000_3
 have HR0_0 := aM hr0_0
 have HC0_0 := aM hc0_0
 clear hr0_0 hc0_0
 have HB := aM (Below.refl w.heap.size w)
 have H : ((spec_l00In.f ((rd_T27 l0_0 a0_1).f0) (-1048576) 1048576).bind fun t139 => (if t139 = true then ((spec_l00In.f ((rd_T27 l0_0 a0_1).f1) (-1048576) 1048576).bind fun t141 => (if t141 = true then ((spec_l00In.f ((rd_T27 l0_0 a0_1).f2) 0 128).bind fun t143 => (if t143 = true then (if (((rd_T27 l0_0 a0_1).f3).length : Int) > 128 then (spec_l22Ok_at.j0 k true l0_0 a0_1) else (spec_l22Ok_at.j0 k ((((rd_T27 l0_0 a0_1).f2) == 0) != ((((rd_T27 l0_0 a0_1).f3).length : Int) == 0)) l0_0 a0_1)) else (spec_l22Ok_at.j0 k true l0_0 a0_1))) else (spec_l22Ok_at.j0 k true l0_0 a0_1))) else (spec_l22Ok_at.j0 k true l0_0 a0_1))) = some r := h
 clear h
 have HC2 := aM H
 clear H
 go_enter Tryd.func27, Tryd.ntmps27
 go_upto_region 1 with (fail)
 go_cut [47] (fun v47 wc => ∃ (kq : Nat) (x47_1 : Bool), v47 = .bool x47_1 ∧ Aside0 (spec_l22Ok_at.j0 kq x47_1 l0_0 a0_1 = some r) ∧ Aside0 (kq ≤ k) ∧ Aside0 (Below w.heap.size w wc))
 case first =>
  have H := HC2.out
  clear HC2
  replace H := Option.bind_eq_some_iff.mp H
  obtain ⟨t139, A30, H⟩ := H
  replace H : (if t139 = true then ((spec_l00In.f ((rd_T27 l0_0 a0_1).f1) (-1048576) 1048576).bind fun t141 => (if t141 = true then ((spec_l00In.f ((rd_T27 l0_0 a0_1).f2) 0 128).bind fun t143 => (if t143 = true then (if (((rd_T27 l0_0 a0_1).f3).length : Int) > 128 then (spec_l22Ok_at.j0 k true l0_0 a0_1) else (spec_l22Ok_at.j0 k ((((rd_T27 l0_0 a0_1).f2) == 0) != ((((rd_T27 l0_0 a0_1).f3).length : Int) == 0)) l0_0 a0_1)) else (spec_l22Ok_at.j0 k true l0_0 a0_1))) else (spec_l22Ok_at.j0 k true l0_0 a0_1))) else (spec_l22Ok_at.j0 k true l0_0 a0_1)) = some r := H
  have A3 := aM A30
  clear A30
  by_cases c4 : t139 = true
  ·subst c4
   have H1 : ((spec_l00In.f ((rd_T27 l0_0 a0_1).f1) (-1048576) 1048576).bind fun t141 => (if t141 = true then ((spec_l00In.f ((rd_T27 l0_0 a0_1).f2) 0 128).bind fun t143 => (if t143 = true then (if (((rd_T27 l0_0 a0_1).f3).length : Int) > 128 then (spec_l22Ok_at.j0 k true l0_0 a0_1) else (spec_l22Ok_at.j0 k ((((rd_T27 l0_0 a0_1).f2) == 0) != ((((rd_T27 l0_0 a0_1).f3).length : Int) == 0)) l0_0 a0_1)) else (spec_l22Ok_at.j0 k true l0_0 a0_1))) else (spec_l22Ok_at.j0 k true l0_0 a0_1))) = some r := by rw [if_pos rfl] at H; exact H
   clear H
   have H := H1
   clear H1
   replace H := Option.bind_eq_some_iff.mp H
   obtain ⟨t141, A50, H⟩ := H
   replace H : (if t141 = true then ((spec_l00In.f ((rd_T27 l0_0 a0_1).f2) 0 128).bind fun t143 => (if t143 = true then (if (((rd_T27 l0_0 a0_1).f3).length : Int) > 128 then (spec_l22Ok_at.j0 k true l0_0 a0_1) else (spec_l22Ok_at.j0 k ((((rd_T27 l0_0 a0_1).f2) == 0) != ((((rd_T27 l0_0 a0_1).f3).length : Int) == 0)) l0_0 a0_1)) else (spec_l22Ok_at.j0 k true l0_0 a0_1))) else (spec_l22Ok_at.j0 k true l0_0 a0_1)) = some r := H
   have A5 := aM A50
   clear A50
   by_cases c6 : t141 = true
   ·subst c6
    have H1 : ((spec_l00In.f ((rd_T27 l0_0 a0_1).f2) 0 128).bind fun t143 => (if t143 = true then (if (((rd_T27 l0_0 a0_1).f3).length : Int) > 128 then (spec_l22Ok_at.j0 k true l0_0 a0_1) else (spec_l22Ok_at.j0 k ((((rd_T27 l0_0 a0_1).f2) == 0) != ((((rd_T27 l0_0 a0_1).f3).length : Int) == 0)) l0_0 a0_1)) else (spec_l22Ok_at.j0 k true l0_0 a0_1))) = some r := by rw [if_pos rfl] at H; exact H
    clear H
    have H := H1
    clear H1
    replace H := Option.bind_eq_some_iff.mp H
    obtain ⟨t143, A70, H⟩ := H
    replace H : (if t143 = true then (if (((rd_T27 l0_0 a0_1).f3).length : Int) > 128 then (spec_l22Ok_at.j0 k true l0_0 a0_1) else (spec_l22Ok_at.j0 k ((((rd_T27 l0_0 a0_1).f2) == 0) != ((((rd_T27 l0_0 a0_1).f3).length : Int) == 0)) l0_0 a0_1)) else (spec_l22Ok_at.j0 k true l0_0 a0_1)) = some r := H
    have A7 := aM A70
    clear A70
    by_cases c8 : t143 = true
    ·subst c8
     have H1 : (if (((rd_T27 l0_0 a0_1).f3).length : Int) > 128 then (spec_l22Ok_at.j0 k true l0_0 a0_1) else (spec_l22Ok_at.j0 k ((((rd_T27 l0_0 a0_1).f2) == 0) != ((((rd_T27 l0_0 a0_1).f3).length : Int) == 0)) l0_0 a0_1)) = some r := by rw [if_pos rfl] at H; exact H
     clear H
     have H := H1
     clear H1
     by_cases c9 : (((rd_T27 l0_0 a0_1).f3).length : Int) > 128
     ·rw [if_pos c9] at H
      have c9b0 : decide (128 < (((rd_T27 l0_0 a0_1).f3).length : Int)) = true := decide_eq_true c9
      have c9b1 : decide (128 < ((rd_T27 l0_0 a0_1).f3).length) = true := decide_eq_true (by omega)
      clear c9
      (first | rw [c9b0] | (simp only [i64_w, i32_w]; rw [c9b0]) | rw [c9b1] | rw [c9b2] | rw [c9b3] | rw [c9b4] | skip)
      have H' := aM H
      clear H
      try go_wp2
      have n0_ := aM (below_drew1 HB.out)
      clear HB
      have HB := n0_
      clear n0_
      have hx138_0 := HX9000_0.out
      have hx138_1 := HX9000_1.out
      have hx138_2 := HX9000_2.out
      have hx138_3 := HX9000_3.out
      have hw138_3 := hx138_3
      have hw138_2 := hx138_2
      have hw138_1 := hx138_1
      have hw138_0 := hx138_0
      replace hx138_0 := cB HB.out hx138_0
      replace hx138_1 := cB HB.out hx138_1
      replace hx138_2 := cB HB.out hx138_2
      replace hx138_3 := cB HB.out hx138_3
      have HR138_3 := HR9000_3
      have HC138_3 := HC9000_3
      have hx140_0 := HX9000_0.out
      have hx140_1 := HX9000_1.out
      have hx140_2 := HX9000_2.out
      have hx140_3 := HX9000_3.out
      have hw140_3 := hx140_3
      have hw140_2 := hx140_2
      have hw140_1 := hx140_1
      have hw140_0 := hx140_0
      replace hx140_0 := cB HB.out hx140_0
      replace hx140_1 := cB HB.out hx140_1
      replace hx140_2 := cB HB.out hx140_2
      replace hx140_3 := cB HB.out hx140_3
      have HR140_3 := HR9000_3
      have HC140_3 := HC9000_3
      have hx142_0 := HX9000_0.out
      have hx142_1 := HX9000_1.out
      have hx142_2 := HX9000_2.out
      have hx142_3 := HX9000_3.out
      have hw142_3 := hx142_3
      have hw142_2 := hx142_2
      have hw142_1 := hx142_1
      have hw142_0 := hx142_0
      replace hx142_0 := cB HB.out hx142_0
      replace hx142_1 := cB HB.out hx142_1
      replace hx142_2 := cB HB.out hx142_2
      replace hx142_3 := cB HB.out hx142_3
      have HR142_3 := HR9000_3
      have HC142_3 := HC9000_3
      have hx144_0 := HX9000_0.out
      have hx144_1 := HX9000_1.out
      have hx144_2 := HX9000_2.out
      have hx144_3 := HX9000_3.out
      have hw144_3 := hx144_3
      have hw144_2 := hx144_2
      have hw144_1 := hx144_1
      have hw144_0 := hx144_0
      replace hx144_0 := cB HB.out hx144_0
      replace hx144_1 := cB HB.out hx144_1
      replace hx144_2 := cB HB.out hx144_2
      replace hx144_3 := cB HB.out hx144_3
      have HR144_3 := HR9000_3
      have HC144_3 := HC9000_3
      refine start_ (n := 44) (S := fun w' => w'.cell? (ad0_.add ((a0_1).toNat * 4)) = some (.int .i64 ((rd_T27 l0_0 a0_1).f0)) ∧ w'.cell? ⟨(ad0_.add ((a0_1).toNat * 4)).block, (ad0_.add ((a0_1).toNat * 4)).off + 1, none⟩ = some (.int .i64 ((rd_T27 l0_0 a0_1).f1)) ∧ w'.cell? ⟨(ad0_.add ((a0_1).toNat * 4)).block, (ad0_.add ((a0_1).toNat * 4)).off + 2, none⟩ = some (.int .i64 ((rd_T27 l0_0 a0_1).f2)) ∧ w'.cell? ⟨(ad0_.add ((a0_1).toNat * 4)).block, (ad0_.add ((a0_1).toNat * 4)).off + 3, none⟩ = some (.slice A9000_3 ((rd_T27 l0_0 a0_1).f3).length c9000_3) ∧ w'.cell? (ad0_.add ((a0_1).toNat * 4)) = some (.int .i64 ((rd_T27 l0_0 a0_1).f0)) ∧ w'.cell? ⟨(ad0_.add ((a0_1).toNat * 4)).block, (ad0_.add ((a0_1).toNat * 4)).off + 1, none⟩ = some (.int .i64 ((rd_T27 l0_0 a0_1).f1)) ∧ w'.cell? ⟨(ad0_.add ((a0_1).toNat * 4)).block, (ad0_.add ((a0_1).toNat * 4)).off + 2, none⟩ = some (.int .i64 ((rd_T27 l0_0 a0_1).f2)) ∧ w'.cell? ⟨(ad0_.add ((a0_1).toNat * 4)).block, (ad0_.add ((a0_1).toNat * 4)).off + 3, none⟩ = some (.slice A9000_3 ((rd_T27 l0_0 a0_1).f3).length c9000_3) ∧ w'.cell? (ad0_.add ((a0_1).toNat * 4)) = some (.int .i64 ((rd_T27 l0_0 a0_1).f0)) ∧ w'.cell? ⟨(ad0_.add ((a0_1).toNat * 4)).block, (ad0_.add ((a0_1).toNat * 4)).off + 1, none⟩ = some (.int .i64 ((rd_T27 l0_0 a0_1).f1)) ∧ w'.cell? ⟨(ad0_.add ((a0_1).toNat * 4)).block, (ad0_.add ((a0_1).toNat * 4)).off + 2, none⟩ = some (.int .i64 ((rd_T27 l0_0 a0_1).f2)) ∧ w'.cell? ⟨(ad0_.add ((a0_1).toNat * 4)).block, (ad0_.add ((a0_1).toNat * 4)).off + 3, none⟩ = some (.slice A9000_3 ((rd_T27 l0_0 a0_1).f3).length c9000_3) ∧ w'.cell? (ad0_.add ((a0_1).toNat * 4)) = some (.int .i64 ((rd_T27 l0_0 a0_1).f0)) ∧ w'.cell? ⟨(ad0_.add ((a0_1).toNat * 4)).block, (ad0_.add ((a0_1).toNat * 4)).off + 1, none⟩ = some (.int .i64 ((rd_T27 l0_0 a0_1).f1)) ∧ w'.cell? ⟨(ad0_.add ((a0_1).toNat * 4)).block, (ad0_.add ((a0_1).toNat * 4)).off + 2, none⟩ = some (.int .i64 ((rd_T27 l0_0 a0_1).f2)) ∧ w'.cell? ⟨(ad0_.add ((a0_1).toNat * 4)).block, (ad0_.add ((a0_1).toNat * 4)).off + 3, none⟩ = some (.slice A9000_3 ((rd_T27 l0_0 a0_1).f3).length c9000_3)) (ds := []) mkspec_l22Ok_at_0 (by kernel_rfl) rfl rfl ⟨(cB HB.out hw138_0), (cB HB.out hw138_1), (cB HB.out hw138_2), (cB HB.out hw138_3), (cB HB.out hw140_0), (cB HB.out hw140_1), (cB HB.out hw140_2), (cB HB.out hw140_3), (cB HB.out hw142_0), (cB HB.out hw142_1), (cB HB.out hw142_2), (cB HB.out hw142_3), (cB HB.out hw144_0), (cB HB.out hw144_1), (cB HB.out hw144_2), (cB HB.out hw144_3)⟩ (fun hHeld => ?_); refine with_tabW spec_l22Ok_at.tab1 spec_l22Ok_at.bits1 (fun HT_ HW_ => ?_)
      generalize w.drew = w10 at HB HR138_3 HR140_3 HR142_3 HR144_3 hx138_0 hx138_1 hx138_2 hx138_3 hx140_0 hx140_1 hx140_2 hx140_3 hx142_0 hx142_1 hx142_2 hx142_3 hx144_0 hx144_1 hx144_2 hx144_3 hHeld ⊢
      refine pQ (i := 0) (N := some 4) mkspec_l22Ok_at_1 ?_
      refine pQ (i := 1) (N := some 5) mkspec_l22Ok_at_2 ?_
      refine pQ (i := 2) (N := some 6) mkspec_l22Ok_at_3 ?_
      refine tQ (i := 3) (N := some 7) mkspec_l22Ok_at_4 rfl hHeld (Or.inl ⟨by rfl, by rintro w' ⟨s0, s1, s2, s3, s4, s5, s6, s7, s8, s9, s10, s11, s12, s13, s14, s15⟩; go_simp; with_reducible rfl⟩) ?_
      refine one_ (i := 4) (N := some 8) mkspec_l22Ok_at_5 rfl rfl (one_of HT_.out (by kernel_rfl)) (by decide) (fun K hK => ?_)
      refine goes_ Tryd.func33 (by kernel_rfl) rfl #[.int .i64 ((rd_T27 l0_0 a0_1).f0), .int .i64 (-1048576), .int .i64 1048576] (by rfl) rfl rfl gQ ?_
      with_reducible refine (spec_l00In.calls ((rd_T27 l0_0 a0_1).f0) (-1048576) 1048576 true _ A3.out).mono ?_
      rintro e w' ⟨rfl, ⟨nd, rfl⟩⟩
      refine ⟨_, rfl, ?_⟩
      refine hK.out _ _ ⟨(cB HB.out hw138_0), (cB HB.out hw138_1), (cB HB.out hw138_2), (cB HB.out hw138_3), (cB HB.out hw140_0), (cB HB.out hw140_1), (cB HB.out hw140_2), (cB HB.out hw140_3), (cB HB.out hw142_0), (cB HB.out hw142_1), (cB HB.out hw142_2), (cB HB.out hw142_3), (cB HB.out hw144_0), (cB HB.out hw144_1), (cB HB.out hw144_2), (cB HB.out hw144_3)⟩ (fun hHeld => ?_)
      clear hK K
      refine norm_ (a' := ?_) ?_ ?_
      rotate_left
      ·show Act.put _ (some 8) _ = _
       simp only [Act.put, sI, sZ, sS, i64_w, i32_w]
       rfl
      refine pQ (i := 5) (N := some 9) mkspec_l22Ok_at_6 ?_
      refine pQ (i := 6) (N := some 10) mkspec_l22Ok_at_7 ?_
      refine pQ (i := 7) (N := some 11) mkspec_l22Ok_at_8 ?_
      refine pQ (i := 8) (N := some 12) mkspec_l22Ok_at_9 ?_
      refine pQ (i := 9) (N := some 13) mkspec_l22Ok_at_10 ?_
      refine tQ (i := 10) (N := some 14) mkspec_l22Ok_at_11 rfl hHeld (Or.inl ⟨by rfl, by rintro w' ⟨s0, s1, s2, s3, s4, s5, s6, s7, s8, s9, s10, s11, s12, s13, s14, s15⟩; go_simp; with_reducible rfl⟩) ?_
      refine one_ (i := 11) (N := some 15) mkspec_l22Ok_at_12 rfl rfl (one_of HT_.out (by kernel_rfl)) (by decide) (fun K hK => ?_)
      refine goes_ Tryd.func33 (by kernel_rfl) rfl #[.int .i64 ((rd_T27 l0_0 a0_1).f1), .int .i64 (-1048576), .int .i64 1048576] (by rfl) rfl rfl gQ ?_
      with_reducible refine (spec_l00In.calls ((rd_T27 l0_0 a0_1).f1) (-1048576) 1048576 true _ A5.out).mono ?_
      rintro e w' ⟨rfl, ⟨nd, rfl⟩⟩
      refine ⟨_, rfl, ?_⟩
      refine hK.out _ _ ⟨(cB HB.out hw138_0), (cB HB.out hw138_1), (cB HB.out hw138_2), (cB HB.out hw138_3), (cB HB.out hw140_0), (cB HB.out hw140_1), (cB HB.out hw140_2), (cB HB.out hw140_3), (cB HB.out hw142_0), (cB HB.out hw142_1), (cB HB.out hw142_2), (cB HB.out hw142_3), (cB HB.out hw144_0), (cB HB.out hw144_1), (cB HB.out hw144_2), (cB HB.out hw144_3)⟩ (fun hHeld => ?_)
      clear hK K
      refine norm_ (a' := ?_) ?_ ?_
      rotate_left
      ·show Act.put _ (some 15) _ = _
       simp only [Act.put, sI, sZ, sS, i64_w, i32_w]
       rfl
      refine pQ (i := 12) (N := some 16) mkspec_l22Ok_at_13 ?_
      refine pQ (i := 13) (N := some 17) mkspec_l22Ok_at_14 ?_
      refine pQ (i := 14) (N := some 18) mkspec_l22Ok_at_15 ?_
      refine pQ (i := 15) (N := some 19) mkspec_l22Ok_at_16 ?_
      refine pQ (i := 16) (N := some 20) mkspec_l22Ok_at_17 ?_
      refine pQ (i := 17) (N := some 21) mkspec_l22Ok_at_18 ?_
      refine tQ (i := 18) (N := some 22) mkspec_l22Ok_at_19 rfl hHeld (Or.inl ⟨by rfl, by rintro w' ⟨s0, s1, s2, s3, s4, s5, s6, s7, s8, s9, s10, s11, s12, s13, s14, s15⟩; go_simp; with_reducible rfl⟩) ?_
      refine one_ (i := 19) (N := some 23) mkspec_l22Ok_at_20 rfl rfl (one_of HT_.out (by kernel_rfl)) (by decide) (fun K hK => ?_)
      refine goes_ Tryd.func33 (by kernel_rfl) rfl #[.int .i64 ((rd_T27 l0_0 a0_1).f2), .int .i64 0, .int .i64 128] (by rfl) rfl rfl gQ ?_
      with_reducible refine (spec_l00In.calls ((rd_T27 l0_0 a0_1).f2) 0 128 true _ A7.out).mono ?_
      rintro e w' ⟨rfl, ⟨nd, rfl⟩⟩
      refine ⟨_, rfl, ?_⟩
      refine hK.out _ _ ⟨(cB HB.out hw138_0), (cB HB.out hw138_1), (cB HB.out hw138_2), (cB HB.out hw138_3), (cB HB.out hw140_0), (cB HB.out hw140_1), (cB HB.out hw140_2), (cB HB.out hw140_3), (cB HB.out hw142_0), (cB HB.out hw142_1), (cB HB.out hw142_2), (cB HB.out hw142_3), (cB HB.out hw144_0), (cB HB.out hw144_1), (cB HB.out hw144_2), (cB HB.out hw144_3)⟩ (fun hHeld => ?_)
      clear hK K
      refine norm_ (a' := ?_) ?_ ?_
      rotate_left
      ·show Act.put _ (some 23) _ = _
       simp only [Act.put, sI, sZ, sS, i64_w, i32_w]
       rfl
      refine pQ (i := 20) (N := some 24) mkspec_l22Ok_at_21 ?_
      refine pQ (i := 21) (N := some 25) mkspec_l22Ok_at_22 ?_
      refine pQ (i := 22) (N := some 26) mkspec_l22Ok_at_23 ?_
      refine pQ (i := 23) (N := some 27) mkspec_l22Ok_at_24 ?_
      refine pQ (i := 24) (N := some 28) mkspec_l22Ok_at_25 ?_
      refine pQ (i := 25) (N := some 29) mkspec_l22Ok_at_26 ?_
      refine tQ (i := 26) (N := some 30) mkspec_l22Ok_at_27 rfl hHeld (Or.inl ⟨by rfl, by rintro w' ⟨s0, s1, s2, s3, s4, s5, s6, s7, s8, s9, s10, s11, s12, s13, s14, s15⟩; go_simp; with_reducible rfl⟩) ?_
      refine pQ (i := 27) (N := some 31) mkspec_l22Ok_at_28 ?_
      refine pQ (i := 28) (N := some 32) mkspec_l22Ok_at_29 ?_
      refine pQ (i := 29) (N := some 33) mkspec_l22Ok_at_30 ?_
      refine pQ (i := 30) (N := some 34) mkspec_l22Ok_at_31 ?_
      refine uQ (i := 31) (N := some 35) mkspec_l22Ok_at_32 ?_
      refine uQ (i := 32) (N := some 36) mkspec_l22Ok_at_33 ?_
      refine uQ (i := 33) (N := some 37) mkspec_l22Ok_at_34 ?_
      refine uQ (i := 34) (N := some 38) mkspec_l22Ok_at_35 ?_
      refine uQ (i := 35) (N := some 39) mkspec_l22Ok_at_37 ?_
      refine uQ (i := 36) (N := some 40) mkspec_l22Ok_at_39 ?_
      refine uQ (i := 37) (N := some 41) mkspec_l22Ok_at_41 ?_
      refine uQ (i := 38) (N := some 42) mkspec_l22Ok_at_43 ?_
      refine uQ (i := 39) (N := some 43) mkspec_l22Ok_at_44 ?_
      refine uQ (i := 40) (N := some 44) mkspec_l22Ok_at_45 ?_
      refine uQ (i := 41) (N := some 45) mkspec_l22Ok_at_46 ?_
      refine uQ (i := 42) (N := some 46) mkspec_l22Ok_at_47 ?_
      refine pQ (i := 43) (N := some 47) mkspec_l22Ok_at_48 ?_
      refine done_ (done_of HT_.out (by kernel_rfl)) ?_
      try go_wp2
      go_meet
      case rel => exact ⟨_, (true), rQ, H', ⟨by first | omega | exact Nat.le_refl _⟩, ⟨bQ⟩⟩
     ·rw [if_neg c9] at H
      have c9b0 : decide (128 < (((rd_T27 l0_0 a0_1).f3).length : Int)) = false := decide_eq_false c9
      have c9b1 : decide (128 < ((rd_T27 l0_0 a0_1).f3).length) = false := decide_eq_false (by omega)
      clear c9
      (first | rw [c9b0] | (simp only [i64_w, i32_w]; rw [c9b0]) | rw [c9b1] | rw [c9b2] | rw [c9b3] | rw [c9b4] | skip)
      have H' := aM H
      clear H
      try go_wp2
      have n0_ := aM (below_drew1 HB.out)
      clear HB
      have HB := n0_
      clear n0_
      have hx138_0 := HX9000_0.out
      have hx138_1 := HX9000_1.out
      have hx138_2 := HX9000_2.out
      have hx138_3 := HX9000_3.out
      have hw138_3 := hx138_3
      have hw138_2 := hx138_2
      have hw138_1 := hx138_1
      have hw138_0 := hx138_0
      replace hx138_0 := cB HB.out hx138_0
      replace hx138_1 := cB HB.out hx138_1
      replace hx138_2 := cB HB.out hx138_2
      replace hx138_3 := cB HB.out hx138_3
      have HR138_3 := HR9000_3
      have HC138_3 := HC9000_3
      have hx140_0 := HX9000_0.out
      have hx140_1 := HX9000_1.out
      have hx140_2 := HX9000_2.out
      have hx140_3 := HX9000_3.out
      have hw140_3 := hx140_3
      have hw140_2 := hx140_2
      have hw140_1 := hx140_1
      have hw140_0 := hx140_0
      replace hx140_0 := cB HB.out hx140_0
      replace hx140_1 := cB HB.out hx140_1
      replace hx140_2 := cB HB.out hx140_2
      replace hx140_3 := cB HB.out hx140_3
      have HR140_3 := HR9000_3
      have HC140_3 := HC9000_3
      have hx142_0 := HX9000_0.out
      have hx142_1 := HX9000_1.out
      have hx142_2 := HX9000_2.out
      have hx142_3 := HX9000_3.out
      have hw142_3 := hx142_3
      have hw142_2 := hx142_2
      have hw142_1 := hx142_1
      have hw142_0 := hx142_0
      replace hx142_0 := cB HB.out hx142_0
      replace hx142_1 := cB HB.out hx142_1
      replace hx142_2 := cB HB.out hx142_2
      replace hx142_3 := cB HB.out hx142_3
      have HR142_3 := HR9000_3
      have HC142_3 := HC9000_3
      have hx144_0 := HX9000_0.out
      have hx144_1 := HX9000_1.out
      have hx144_2 := HX9000_2.out
      have hx144_3 := HX9000_3.out
      have hw144_3 := hx144_3
      have hw144_2 := hx144_2
      have hw144_1 := hx144_1
      have hw144_0 := hx144_0
      replace hx144_0 := cB HB.out hx144_0
      replace hx144_1 := cB HB.out hx144_1
      replace hx144_2 := cB HB.out hx144_2
      replace hx144_3 := cB HB.out hx144_3
      have HR144_3 := HR9000_3
      have HC144_3 := HC9000_3
      have hx145_0 := HX9000_0.out
      have hx145_1 := HX9000_1.out
      have hx145_2 := HX9000_2.out
      have hx145_3 := HX9000_3.out
      have hw145_3 := hx145_3
      have hw145_2 := hx145_2
      have hw145_1 := hx145_1
      have hw145_0 := hx145_0
      replace hx145_0 := cB HB.out hx145_0
      replace hx145_1 := cB HB.out hx145_1
      replace hx145_2 := cB HB.out hx145_2
      replace hx145_3 := cB HB.out hx145_3
      have HR145_3 := HR9000_3
      have HC145_3 := HC9000_3
      have hx146_0 := HX9000_0.out
      have hx146_1 := HX9000_1.out
      have hx146_2 := HX9000_2.out
      have hx146_3 := HX9000_3.out
      have hw146_3 := hx146_3
      have hw146_2 := hx146_2
      have hw146_1 := hx146_1
      have hw146_0 := hx146_0
      replace hx146_0 := cB HB.out hx146_0
      replace hx146_1 := cB HB.out hx146_1
      replace hx146_2 := cB HB.out hx146_2
      replace hx146_3 := cB HB.out hx146_3
      have HR146_3 := HR9000_3
      have HC146_3 := HC9000_3
      refine start_ (n := 44) (S := fun w' => w'.cell? (ad0_.add ((a0_1).toNat * 4)) = some (.int .i64 ((rd_T27 l0_0 a0_1).f0)) ∧ w'.cell? ⟨(ad0_.add ((a0_1).toNat * 4)).block, (ad0_.add ((a0_1).toNat * 4)).off + 1, none⟩ = some (.int .i64 ((rd_T27 l0_0 a0_1).f1)) ∧ w'.cell? ⟨(ad0_.add ((a0_1).toNat * 4)).block, (ad0_.add ((a0_1).toNat * 4)).off + 2, none⟩ = some (.int .i64 ((rd_T27 l0_0 a0_1).f2)) ∧ w'.cell? ⟨(ad0_.add ((a0_1).toNat * 4)).block, (ad0_.add ((a0_1).toNat * 4)).off + 3, none⟩ = some (.slice A9000_3 ((rd_T27 l0_0 a0_1).f3).length c9000_3) ∧ w'.cell? (ad0_.add ((a0_1).toNat * 4)) = some (.int .i64 ((rd_T27 l0_0 a0_1).f0)) ∧ w'.cell? ⟨(ad0_.add ((a0_1).toNat * 4)).block, (ad0_.add ((a0_1).toNat * 4)).off + 1, none⟩ = some (.int .i64 ((rd_T27 l0_0 a0_1).f1)) ∧ w'.cell? ⟨(ad0_.add ((a0_1).toNat * 4)).block, (ad0_.add ((a0_1).toNat * 4)).off + 2, none⟩ = some (.int .i64 ((rd_T27 l0_0 a0_1).f2)) ∧ w'.cell? ⟨(ad0_.add ((a0_1).toNat * 4)).block, (ad0_.add ((a0_1).toNat * 4)).off + 3, none⟩ = some (.slice A9000_3 ((rd_T27 l0_0 a0_1).f3).length c9000_3) ∧ w'.cell? (ad0_.add ((a0_1).toNat * 4)) = some (.int .i64 ((rd_T27 l0_0 a0_1).f0)) ∧ w'.cell? ⟨(ad0_.add ((a0_1).toNat * 4)).block, (ad0_.add ((a0_1).toNat * 4)).off + 1, none⟩ = some (.int .i64 ((rd_T27 l0_0 a0_1).f1)) ∧ w'.cell? ⟨(ad0_.add ((a0_1).toNat * 4)).block, (ad0_.add ((a0_1).toNat * 4)).off + 2, none⟩ = some (.int .i64 ((rd_T27 l0_0 a0_1).f2)) ∧ w'.cell? ⟨(ad0_.add ((a0_1).toNat * 4)).block, (ad0_.add ((a0_1).toNat * 4)).off + 3, none⟩ = some (.slice A9000_3 ((rd_T27 l0_0 a0_1).f3).length c9000_3) ∧ w'.cell? (ad0_.add ((a0_1).toNat * 4)) = some (.int .i64 ((rd_T27 l0_0 a0_1).f0)) ∧ w'.cell? ⟨(ad0_.add ((a0_1).toNat * 4)).block, (ad0_.add ((a0_1).toNat * 4)).off + 1, none⟩ = some (.int .i64 ((rd_T27 l0_0 a0_1).f1)) ∧ w'.cell? ⟨(ad0_.add ((a0_1).toNat * 4)).block, (ad0_.add ((a0_1).toNat * 4)).off + 2, none⟩ = some (.int .i64 ((rd_T27 l0_0 a0_1).f2)) ∧ w'.cell? ⟨(ad0_.add ((a0_1).toNat * 4)).block, (ad0_.add ((a0_1).toNat * 4)).off + 3, none⟩ = some (.slice A9000_3 ((rd_T27 l0_0 a0_1).f3).length c9000_3) ∧ w'.cell? (ad0_.add ((a0_1).toNat * 4)) = some (.int .i64 ((rd_T27 l0_0 a0_1).f0)) ∧ w'.cell? ⟨(ad0_.add ((a0_1).toNat * 4)).block, (ad0_.add ((a0_1).toNat * 4)).off + 1, none⟩ = some (.int .i64 ((rd_T27 l0_0 a0_1).f1)) ∧ w'.cell? ⟨(ad0_.add ((a0_1).toNat * 4)).block, (ad0_.add ((a0_1).toNat * 4)).off + 2, none⟩ = some (.int .i64 ((rd_T27 l0_0 a0_1).f2)) ∧ w'.cell? ⟨(ad0_.add ((a0_1).toNat * 4)).block, (ad0_.add ((a0_1).toNat * 4)).off + 3, none⟩ = some (.slice A9000_3 ((rd_T27 l0_0 a0_1).f3).length c9000_3) ∧ w'.cell? (ad0_.add ((a0_1).toNat * 4)) = some (.int .i64 ((rd_T27 l0_0 a0_1).f0)) ∧ w'.cell? ⟨(ad0_.add ((a0_1).toNat * 4)).block, (ad0_.add ((a0_1).toNat * 4)).off + 1, none⟩ = some (.int .i64 ((rd_T27 l0_0 a0_1).f1)) ∧ w'.cell? ⟨(ad0_.add ((a0_1).toNat * 4)).block, (ad0_.add ((a0_1).toNat * 4)).off + 2, none⟩ = some (.int .i64 ((rd_T27 l0_0 a0_1).f2)) ∧ w'.cell? ⟨(ad0_.add ((a0_1).toNat * 4)).block, (ad0_.add ((a0_1).toNat * 4)).off + 3, none⟩ = some (.slice A9000_3 ((rd_T27 l0_0 a0_1).f3).length c9000_3)) (ds := []) mkspec_l22Ok_at_0 (by kernel_rfl) rfl rfl ⟨(cB HB.out hw138_0), (cB HB.out hw138_1), (cB HB.out hw138_2), (cB HB.out hw138_3), (cB HB.out hw140_0), (cB HB.out hw140_1), (cB HB.out hw140_2), (cB HB.out hw140_3), (cB HB.out hw142_0), (cB HB.out hw142_1), (cB HB.out hw142_2), (cB HB.out hw142_3), (cB HB.out hw144_0), (cB HB.out hw144_1), (cB HB.out hw144_2), (cB HB.out hw144_3), (cB HB.out hw145_0), (cB HB.out hw145_1), (cB HB.out hw145_2), (cB HB.out hw145_3), (cB HB.out hw146_0), (cB HB.out hw146_1), (cB HB.out hw146_2), (cB HB.out hw146_3)⟩ (fun hHeld => ?_); refine with_tabW spec_l22Ok_at.tab1 spec_l22Ok_at.bits1 (fun HT_ HW_ => ?_)
      generalize w.drew = w11 at HB HR138_3 HR140_3 HR142_3 HR144_3 HR145_3 HR146_3 hx138_0 hx138_1 hx138_2 hx138_3 hx140_0 hx140_1 hx140_2 hx140_3 hx142_0 hx142_1 hx142_2 hx142_3 hx144_0 hx144_1 hx144_2 hx144_3 hx145_0 hx145_1 hx145_2 hx145_3 hx146_0 hx146_1 hx146_2 hx146_3 hHeld ⊢
      refine pQ (i := 0) (N := some 4) mkspec_l22Ok_at_1 ?_
      refine pQ (i := 1) (N := some 5) mkspec_l22Ok_at_2 ?_
      refine pQ (i := 2) (N := some 6) mkspec_l22Ok_at_3 ?_
      refine tQ (i := 3) (N := some 7) mkspec_l22Ok_at_4 rfl hHeld (Or.inl ⟨by rfl, by rintro w' ⟨s0, s1, s2, s3, s4, s5, s6, s7, s8, s9, s10, s11, s12, s13, s14, s15, s16, s17, s18, s19, s20, s21, s22, s23⟩; go_simp; with_reducible rfl⟩) ?_
      refine one_ (i := 4) (N := some 8) mkspec_l22Ok_at_5 rfl rfl (one_of HT_.out (by kernel_rfl)) (by decide) (fun K hK => ?_)
      refine goes_ Tryd.func33 (by kernel_rfl) rfl #[.int .i64 ((rd_T27 l0_0 a0_1).f0), .int .i64 (-1048576), .int .i64 1048576] (by rfl) rfl rfl gQ ?_
      with_reducible refine (spec_l00In.calls ((rd_T27 l0_0 a0_1).f0) (-1048576) 1048576 true _ A3.out).mono ?_
      rintro e w' ⟨rfl, ⟨nd, rfl⟩⟩
      refine ⟨_, rfl, ?_⟩
      refine hK.out _ _ ⟨(cB HB.out hw138_0), (cB HB.out hw138_1), (cB HB.out hw138_2), (cB HB.out hw138_3), (cB HB.out hw140_0), (cB HB.out hw140_1), (cB HB.out hw140_2), (cB HB.out hw140_3), (cB HB.out hw142_0), (cB HB.out hw142_1), (cB HB.out hw142_2), (cB HB.out hw142_3), (cB HB.out hw144_0), (cB HB.out hw144_1), (cB HB.out hw144_2), (cB HB.out hw144_3), (cB HB.out hw145_0), (cB HB.out hw145_1), (cB HB.out hw145_2), (cB HB.out hw145_3), (cB HB.out hw146_0), (cB HB.out hw146_1), (cB HB.out hw146_2), (cB HB.out hw146_3)⟩ (fun hHeld => ?_)
      clear hK K
      refine norm_ (a' := ?_) ?_ ?_
      rotate_left
      ·show Act.put _ (some 8) _ = _
       simp only [Act.put, sI, sZ, sS, i64_w, i32_w]
       rfl
      refine pQ (i := 5) (N := some 9) mkspec_l22Ok_at_6 ?_
      refine pQ (i := 6) (N := some 10) mkspec_l22Ok_at_7 ?_
      refine pQ (i := 7) (N := some 11) mkspec_l22Ok_at_8 ?_
      refine pQ (i := 8) (N := some 12) mkspec_l22Ok_at_9 ?_
      refine pQ (i := 9) (N := some 13) mkspec_l22Ok_at_10 ?_
      refine tQ (i := 10) (N := some 14) mkspec_l22Ok_at_11 rfl hHeld (Or.inl ⟨by rfl, by rintro w' ⟨s0, s1, s2, s3, s4, s5, s6, s7, s8, s9, s10, s11, s12, s13, s14, s15, s16, s17, s18, s19, s20, s21, s22, s23⟩; go_simp; with_reducible rfl⟩) ?_
      refine one_ (i := 11) (N := some 15) mkspec_l22Ok_at_12 rfl rfl (one_of HT_.out (by kernel_rfl)) (by decide) (fun K hK => ?_)
      refine goes_ Tryd.func33 (by kernel_rfl) rfl #[.int .i64 ((rd_T27 l0_0 a0_1).f1), .int .i64 (-1048576), .int .i64 1048576] (by rfl) rfl rfl gQ ?_
      with_reducible refine (spec_l00In.calls ((rd_T27 l0_0 a0_1).f1) (-1048576) 1048576 true _ A5.out).mono ?_
      rintro e w' ⟨rfl, ⟨nd, rfl⟩⟩
      refine ⟨_, rfl, ?_⟩
      refine hK.out _ _ ⟨(cB HB.out hw138_0), (cB HB.out hw138_1), (cB HB.out hw138_2), (cB HB.out hw138_3), (cB HB.out hw140_0), (cB HB.out hw140_1), (cB HB.out hw140_2), (cB HB.out hw140_3), (cB HB.out hw142_0), (cB HB.out hw142_1), (cB HB.out hw142_2), (cB HB.out hw142_3), (cB HB.out hw144_0), (cB HB.out hw144_1), (cB HB.out hw144_2), (cB HB.out hw144_3), (cB HB.out hw145_0), (cB HB.out hw145_1), (cB HB.out hw145_2), (cB HB.out hw145_3), (cB HB.out hw146_0), (cB HB.out hw146_1), (cB HB.out hw146_2), (cB HB.out hw146_3)⟩ (fun hHeld => ?_)
      clear hK K
      refine norm_ (a' := ?_) ?_ ?_
      rotate_left
      ·show Act.put _ (some 15) _ = _
       simp only [Act.put, sI, sZ, sS, i64_w, i32_w]
       rfl
      refine pQ (i := 12) (N := some 16) mkspec_l22Ok_at_13 ?_
      refine pQ (i := 13) (N := some 17) mkspec_l22Ok_at_14 ?_
      refine pQ (i := 14) (N := some 18) mkspec_l22Ok_at_15 ?_
      refine pQ (i := 15) (N := some 19) mkspec_l22Ok_at_16 ?_
      refine pQ (i := 16) (N := some 20) mkspec_l22Ok_at_17 ?_
      refine pQ (i := 17) (N := some 21) mkspec_l22Ok_at_18 ?_
      refine tQ (i := 18) (N := some 22) mkspec_l22Ok_at_19 rfl hHeld (Or.inl ⟨by rfl, by rintro w' ⟨s0, s1, s2, s3, s4, s5, s6, s7, s8, s9, s10, s11, s12, s13, s14, s15, s16, s17, s18, s19, s20, s21, s22, s23⟩; go_simp; with_reducible rfl⟩) ?_
      refine one_ (i := 19) (N := some 23) mkspec_l22Ok_at_20 rfl rfl (one_of HT_.out (by kernel_rfl)) (by decide) (fun K hK => ?_)
      refine goes_ Tryd.func33 (by kernel_rfl) rfl #[.int .i64 ((rd_T27 l0_0 a0_1).f2), .int .i64 0, .int .i64 128] (by rfl) rfl rfl gQ ?_
      with_reducible refine (spec_l00In.calls ((rd_T27 l0_0 a0_1).f2) 0 128 true _ A7.out).mono ?_
      rintro e w' ⟨rfl, ⟨nd, rfl⟩⟩
      refine ⟨_, rfl, ?_⟩
      refine hK.out _ _ ⟨(cB HB.out hw138_0), (cB HB.out hw138_1), (cB HB.out hw138_2), (cB HB.out hw138_3), (cB HB.out hw140_0), (cB HB.out hw140_1), (cB HB.out hw140_2), (cB HB.out hw140_3), (cB HB.out hw142_0), (cB HB.out hw142_1), (cB HB.out hw142_2), (cB HB.out hw142_3), (cB HB.out hw144_0), (cB HB.out hw144_1), (cB HB.out hw144_2), (cB HB.out hw144_3), (cB HB.out hw145_0), (cB HB.out hw145_1), (cB HB.out hw145_2), (cB HB.out hw145_3), (cB HB.out hw146_0), (cB HB.out hw146_1), (cB HB.out hw146_2), (cB HB.out hw146_3)⟩ (fun hHeld => ?_)
      clear hK K
      refine norm_ (a' := ?_) ?_ ?_
      rotate_left
      ·show Act.put _ (some 23) _ = _
       simp only [Act.put, sI, sZ, sS, i64_w, i32_w]
       rfl
      refine pQ (i := 20) (N := some 24) mkspec_l22Ok_at_21 ?_
      refine pQ (i := 21) (N := some 25) mkspec_l22Ok_at_22 ?_
      refine pQ (i := 22) (N := some 26) mkspec_l22Ok_at_23 ?_
      refine pQ (i := 23) (N := some 27) mkspec_l22Ok_at_24 ?_
      refine pQ (i := 24) (N := some 28) mkspec_l22Ok_at_25 ?_
      refine pQ (i := 25) (N := some 29) mkspec_l22Ok_at_26 ?_
      refine tQ (i := 26) (N := some 30) mkspec_l22Ok_at_27 rfl hHeld (Or.inl ⟨by rfl, by rintro w' ⟨s0, s1, s2, s3, s4, s5, s6, s7, s8, s9, s10, s11, s12, s13, s14, s15, s16, s17, s18, s19, s20, s21, s22, s23⟩; go_simp; with_reducible rfl⟩) ?_
      refine pQ (i := 27) (N := some 31) mkspec_l22Ok_at_28 ?_
      refine pQ (i := 28) (N := some 32) mkspec_l22Ok_at_29 ?_
      refine pQ (i := 29) (N := some 33) mkspec_l22Ok_at_30 ?_
      refine pQ (i := 30) (N := some 34) mkspec_l22Ok_at_31 ?_
      refine pQ (i := 31) (N := some 35) mkspec_l22Ok_at_32 ?_
      refine pQ (i := 32) (N := some 36) mkspec_l22Ok_at_33 ?_
      refine pQ (i := 33) (N := some 37) mkspec_l22Ok_at_34 ?_
      refine pQ (i := 36) (N := some 40) mkspec_l22Ok_at_36 ?_
      refine pQ (i := 37) (N := some 41) mkspec_l22Ok_at_38 ?_
      refine pQ (i := 38) (N := some 42) mkspec_l22Ok_at_40 ?_
      refine tQ (i := 34) (N := some 38) mkspec_l22Ok_at_42 rfl hHeld (Or.inl ⟨by rfl, by rintro w' ⟨s0, s1, s2, s3, s4, s5, s6, s7, s8, s9, s10, s11, s12, s13, s14, s15, s16, s17, s18, s19, s20, s21, s22, s23⟩; go_simp; with_reducible rfl⟩) ?_
      refine pQ (i := 35) (N := some 39) mkspec_l22Ok_at_43 ?_
      refine tQ (i := 39) (N := some 43) mkspec_l22Ok_at_44 rfl hHeld (Or.inl ⟨by rfl, by rintro w' ⟨s0, s1, s2, s3, s4, s5, s6, s7, s8, s9, s10, s11, s12, s13, s14, s15, s16, s17, s18, s19, s20, s21, s22, s23⟩; go_simp; with_reducible rfl⟩) ?_
      refine pQ (i := 40) (N := some 44) mkspec_l22Ok_at_45 ?_
      refine pQ (i := 41) (N := some 45) mkspec_l22Ok_at_46 ?_
      refine pQ (i := 42) (N := some 46) mkspec_l22Ok_at_47 ?_
      refine pQ (i := 43) (N := some 47) mkspec_l22Ok_at_48 ?_
      refine done_ (done_of HT_.out (by kernel_rfl)) ?_
      try go_wp2
      go_meet
      case rel => exact ⟨_, (((((rd_T27 l0_0 a0_1).f2) == 0) != ((((rd_T27 l0_0 a0_1).f3).length : Int) == 0))), rQ, H', ⟨by first | omega | exact Nat.le_refl _⟩, ⟨bQ⟩⟩
    ·replace c8 := Bool.eq_false_iff.mpr c8
     subst c8
     have H1 : (spec_l22Ok_at.j0 k true l0_0 a0_1) = some r := by rw [if_neg (show ¬ (false = true) by decide)] at H; exact H
     clear H
     have H := H1
     clear H1
     have H' := aM H
     clear H
     try go_wp2
     have n0_ := aM (below_drew1 HB.out)
     clear HB
     have HB := n0_
     clear n0_
     have hx138_0 := HX9000_0.out
     have hx138_1 := HX9000_1.out
     have hx138_2 := HX9000_2.out
     have hx138_3 := HX9000_3.out
     have hw138_3 := hx138_3
     have hw138_2 := hx138_2
     have hw138_1 := hx138_1
     have hw138_0 := hx138_0
     replace hx138_0 := cB HB.out hx138_0
     replace hx138_1 := cB HB.out hx138_1
     replace hx138_2 := cB HB.out hx138_2
     replace hx138_3 := cB HB.out hx138_3
     have HR138_3 := HR9000_3
     have HC138_3 := HC9000_3
     have hx140_0 := HX9000_0.out
     have hx140_1 := HX9000_1.out
     have hx140_2 := HX9000_2.out
     have hx140_3 := HX9000_3.out
     have hw140_3 := hx140_3
     have hw140_2 := hx140_2
     have hw140_1 := hx140_1
     have hw140_0 := hx140_0
     replace hx140_0 := cB HB.out hx140_0
     replace hx140_1 := cB HB.out hx140_1
     replace hx140_2 := cB HB.out hx140_2
     replace hx140_3 := cB HB.out hx140_3
     have HR140_3 := HR9000_3
     have HC140_3 := HC9000_3
     have hx142_0 := HX9000_0.out
     have hx142_1 := HX9000_1.out
     have hx142_2 := HX9000_2.out
     have hx142_3 := HX9000_3.out
     have hw142_3 := hx142_3
     have hw142_2 := hx142_2
     have hw142_1 := hx142_1
     have hw142_0 := hx142_0
     replace hx142_0 := cB HB.out hx142_0
     replace hx142_1 := cB HB.out hx142_1
     replace hx142_2 := cB HB.out hx142_2
     replace hx142_3 := cB HB.out hx142_3
     have HR142_3 := HR9000_3
     have HC142_3 := HC9000_3
     refine start_ (n := 44) (S := fun w' => w'.cell? (ad0_.add ((a0_1).toNat * 4)) = some (.int .i64 ((rd_T27 l0_0 a0_1).f0)) ∧ w'.cell? ⟨(ad0_.add ((a0_1).toNat * 4)).block, (ad0_.add ((a0_1).toNat * 4)).off + 1, none⟩ = some (.int .i64 ((rd_T27 l0_0 a0_1).f1)) ∧ w'.cell? ⟨(ad0_.add ((a0_1).toNat * 4)).block, (ad0_.add ((a0_1).toNat * 4)).off + 2, none⟩ = some (.int .i64 ((rd_T27 l0_0 a0_1).f2)) ∧ w'.cell? ⟨(ad0_.add ((a0_1).toNat * 4)).block, (ad0_.add ((a0_1).toNat * 4)).off + 3, none⟩ = some (.slice A9000_3 ((rd_T27 l0_0 a0_1).f3).length c9000_3) ∧ w'.cell? (ad0_.add ((a0_1).toNat * 4)) = some (.int .i64 ((rd_T27 l0_0 a0_1).f0)) ∧ w'.cell? ⟨(ad0_.add ((a0_1).toNat * 4)).block, (ad0_.add ((a0_1).toNat * 4)).off + 1, none⟩ = some (.int .i64 ((rd_T27 l0_0 a0_1).f1)) ∧ w'.cell? ⟨(ad0_.add ((a0_1).toNat * 4)).block, (ad0_.add ((a0_1).toNat * 4)).off + 2, none⟩ = some (.int .i64 ((rd_T27 l0_0 a0_1).f2)) ∧ w'.cell? ⟨(ad0_.add ((a0_1).toNat * 4)).block, (ad0_.add ((a0_1).toNat * 4)).off + 3, none⟩ = some (.slice A9000_3 ((rd_T27 l0_0 a0_1).f3).length c9000_3) ∧ w'.cell? (ad0_.add ((a0_1).toNat * 4)) = some (.int .i64 ((rd_T27 l0_0 a0_1).f0)) ∧ w'.cell? ⟨(ad0_.add ((a0_1).toNat * 4)).block, (ad0_.add ((a0_1).toNat * 4)).off + 1, none⟩ = some (.int .i64 ((rd_T27 l0_0 a0_1).f1)) ∧ w'.cell? ⟨(ad0_.add ((a0_1).toNat * 4)).block, (ad0_.add ((a0_1).toNat * 4)).off + 2, none⟩ = some (.int .i64 ((rd_T27 l0_0 a0_1).f2)) ∧ w'.cell? ⟨(ad0_.add ((a0_1).toNat * 4)).block, (ad0_.add ((a0_1).toNat * 4)).off + 3, none⟩ = some (.slice A9000_3 ((rd_T27 l0_0 a0_1).f3).length c9000_3)) (ds := []) mkspec_l22Ok_at_0 (by kernel_rfl) rfl rfl ⟨(cB HB.out hw138_0), (cB HB.out hw138_1), (cB HB.out hw138_2), (cB HB.out hw138_3), (cB HB.out hw140_0), (cB HB.out hw140_1), (cB HB.out hw140_2), (cB HB.out hw140_3), (cB HB.out hw142_0), (cB HB.out hw142_1), (cB HB.out hw142_2), (cB HB.out hw142_3)⟩ (fun hHeld => ?_); refine with_tabW spec_l22Ok_at.tab1 spec_l22Ok_at.bits1 (fun HT_ HW_ => ?_)
     generalize w.drew = w12 at HB HR138_3 HR140_3 HR142_3 hx138_0 hx138_1 hx138_2 hx138_3 hx140_0 hx140_1 hx140_2 hx140_3 hx142_0 hx142_1 hx142_2 hx142_3 hHeld ⊢
     refine pQ (i := 0) (N := some 4) mkspec_l22Ok_at_1 ?_
     refine pQ (i := 1) (N := some 5) mkspec_l22Ok_at_2 ?_
     refine pQ (i := 2) (N := some 6) mkspec_l22Ok_at_3 ?_
     refine tQ (i := 3) (N := some 7) mkspec_l22Ok_at_4 rfl hHeld (Or.inl ⟨by rfl, by rintro w' ⟨s0, s1, s2, s3, s4, s5, s6, s7, s8, s9, s10, s11⟩; go_simp; with_reducible rfl⟩) ?_
     refine one_ (i := 4) (N := some 8) mkspec_l22Ok_at_5 rfl rfl (one_of HT_.out (by kernel_rfl)) (by decide) (fun K hK => ?_)
     refine goes_ Tryd.func33 (by kernel_rfl) rfl #[.int .i64 ((rd_T27 l0_0 a0_1).f0), .int .i64 (-1048576), .int .i64 1048576] (by rfl) rfl rfl gQ ?_
     with_reducible refine (spec_l00In.calls ((rd_T27 l0_0 a0_1).f0) (-1048576) 1048576 true _ A3.out).mono ?_
     rintro e w' ⟨rfl, ⟨nd, rfl⟩⟩
     refine ⟨_, rfl, ?_⟩
     refine hK.out _ _ ⟨(cB HB.out hw138_0), (cB HB.out hw138_1), (cB HB.out hw138_2), (cB HB.out hw138_3), (cB HB.out hw140_0), (cB HB.out hw140_1), (cB HB.out hw140_2), (cB HB.out hw140_3), (cB HB.out hw142_0), (cB HB.out hw142_1), (cB HB.out hw142_2), (cB HB.out hw142_3)⟩ (fun hHeld => ?_)
     clear hK K
     refine norm_ (a' := ?_) ?_ ?_
     rotate_left
     ·show Act.put _ (some 8) _ = _
      simp only [Act.put, sI, sZ, sS, i64_w, i32_w]
      rfl
     refine pQ (i := 5) (N := some 9) mkspec_l22Ok_at_6 ?_
     refine pQ (i := 6) (N := some 10) mkspec_l22Ok_at_7 ?_
     refine pQ (i := 7) (N := some 11) mkspec_l22Ok_at_8 ?_
     refine pQ (i := 8) (N := some 12) mkspec_l22Ok_at_9 ?_
     refine pQ (i := 9) (N := some 13) mkspec_l22Ok_at_10 ?_
     refine tQ (i := 10) (N := some 14) mkspec_l22Ok_at_11 rfl hHeld (Or.inl ⟨by rfl, by rintro w' ⟨s0, s1, s2, s3, s4, s5, s6, s7, s8, s9, s10, s11⟩; go_simp; with_reducible rfl⟩) ?_
     refine one_ (i := 11) (N := some 15) mkspec_l22Ok_at_12 rfl rfl (one_of HT_.out (by kernel_rfl)) (by decide) (fun K hK => ?_)
     refine goes_ Tryd.func33 (by kernel_rfl) rfl #[.int .i64 ((rd_T27 l0_0 a0_1).f1), .int .i64 (-1048576), .int .i64 1048576] (by rfl) rfl rfl gQ ?_
     with_reducible refine (spec_l00In.calls ((rd_T27 l0_0 a0_1).f1) (-1048576) 1048576 true _ A5.out).mono ?_
     rintro e w' ⟨rfl, ⟨nd, rfl⟩⟩
     refine ⟨_, rfl, ?_⟩
     refine hK.out _ _ ⟨(cB HB.out hw138_0), (cB HB.out hw138_1), (cB HB.out hw138_2), (cB HB.out hw138_3), (cB HB.out hw140_0), (cB HB.out hw140_1), (cB HB.out hw140_2), (cB HB.out hw140_3), (cB HB.out hw142_0), (cB HB.out hw142_1), (cB HB.out hw142_2), (cB HB.out hw142_3)⟩ (fun hHeld => ?_)
     clear hK K
     refine norm_ (a' := ?_) ?_ ?_
     rotate_left
     ·show Act.put _ (some 15) _ = _
      simp only [Act.put, sI, sZ, sS, i64_w, i32_w]
      rfl
     refine pQ (i := 12) (N := some 16) mkspec_l22Ok_at_13 ?_
     refine pQ (i := 13) (N := some 17) mkspec_l22Ok_at_14 ?_
     refine pQ (i := 14) (N := some 18) mkspec_l22Ok_at_15 ?_
     refine pQ (i := 15) (N := some 19) mkspec_l22Ok_at_16 ?_
     refine pQ (i := 16) (N := some 20) mkspec_l22Ok_at_17 ?_
     refine pQ (i := 17) (N := some 21) mkspec_l22Ok_at_18 ?_
     refine tQ (i := 18) (N := some 22) mkspec_l22Ok_at_19 rfl hHeld (Or.inl ⟨by rfl, by rintro w' ⟨s0, s1, s2, s3, s4, s5, s6, s7, s8, s9, s10, s11⟩; go_simp; with_reducible rfl⟩) ?_
     refine one_ (i := 19) (N := some 23) mkspec_l22Ok_at_20 rfl rfl (one_of HT_.out (by kernel_rfl)) (by decide) (fun K hK => ?_)
     refine goes_ Tryd.func33 (by kernel_rfl) rfl #[.int .i64 ((rd_T27 l0_0 a0_1).f2), .int .i64 0, .int .i64 128] (by rfl) rfl rfl gQ ?_
     with_reducible refine (spec_l00In.calls ((rd_T27 l0_0 a0_1).f2) 0 128 false _ A7.out).mono ?_
     rintro e w' ⟨rfl, ⟨nd, rfl⟩⟩
     refine ⟨_, rfl, ?_⟩
     refine hK.out _ _ ⟨(cB HB.out hw138_0), (cB HB.out hw138_1), (cB HB.out hw138_2), (cB HB.out hw138_3), (cB HB.out hw140_0), (cB HB.out hw140_1), (cB HB.out hw140_2), (cB HB.out hw140_3), (cB HB.out hw142_0), (cB HB.out hw142_1), (cB HB.out hw142_2), (cB HB.out hw142_3)⟩ (fun hHeld => ?_)
     clear hK K
     refine norm_ (a' := ?_) ?_ ?_
     rotate_left
     ·show Act.put _ (some 23) _ = _
      simp only [Act.put, sI, sZ, sS, i64_w, i32_w]
      rfl
     refine pQ (i := 20) (N := some 24) mkspec_l22Ok_at_21 ?_
     refine pQ (i := 21) (N := some 25) mkspec_l22Ok_at_22 ?_
     refine pQ (i := 22) (N := some 26) mkspec_l22Ok_at_23 ?_
     refine uQ (i := 23) (N := some 27) mkspec_l22Ok_at_24 ?_
     refine uQ (i := 24) (N := some 28) mkspec_l22Ok_at_25 ?_
     refine uQ (i := 25) (N := some 29) mkspec_l22Ok_at_26 ?_
     refine uQ (i := 26) (N := some 30) mkspec_l22Ok_at_27 ?_
     refine uQ (i := 27) (N := some 31) mkspec_l22Ok_at_28 ?_
     refine uQ (i := 28) (N := some 32) mkspec_l22Ok_at_29 ?_
     refine pQ (i := 29) (N := some 33) mkspec_l22Ok_at_30 ?_
     refine pQ (i := 30) (N := some 34) mkspec_l22Ok_at_31 ?_
     refine uQ (i := 31) (N := some 35) mkspec_l22Ok_at_32 ?_
     refine uQ (i := 32) (N := some 36) mkspec_l22Ok_at_33 ?_
     refine uQ (i := 33) (N := some 37) mkspec_l22Ok_at_34 ?_
     refine uQ (i := 34) (N := some 38) mkspec_l22Ok_at_35 ?_
     refine uQ (i := 35) (N := some 39) mkspec_l22Ok_at_37 ?_
     refine uQ (i := 36) (N := some 40) mkspec_l22Ok_at_39 ?_
     refine uQ (i := 37) (N := some 41) mkspec_l22Ok_at_41 ?_
     refine uQ (i := 38) (N := some 42) mkspec_l22Ok_at_43 ?_
     refine uQ (i := 39) (N := some 43) mkspec_l22Ok_at_44 ?_
     refine uQ (i := 40) (N := some 44) mkspec_l22Ok_at_45 ?_
     refine uQ (i := 41) (N := some 45) mkspec_l22Ok_at_46 ?_
     refine uQ (i := 42) (N := some 46) mkspec_l22Ok_at_47 ?_
     refine pQ (i := 43) (N := some 47) mkspec_l22Ok_at_48 ?_
     refine done_ (done_of HT_.out (by kernel_rfl)) ?_
     try go_wp2
     go_meet
     case rel => exact ⟨_, (true), rQ, H', ⟨by first | omega | exact Nat.le_refl _⟩, ⟨bQ⟩⟩
   ·replace c6 := Bool.eq_false_iff.mpr c6
    subst c6
    have H1 : (spec_l22Ok_at.j0 k true l0_0 a0_1) = some r := by rw [if_neg (show ¬ (false = true) by decide)] at H; exact H
    clear H
    have H := H1
    clear H1
    have H' := aM H
    clear H
    try go_wp2
    have n0_ := aM (below_drew1 HB.out)
    clear HB
    have HB := n0_
    clear n0_
    have hx138_0 := HX9000_0.out
    have hx138_1 := HX9000_1.out
    have hx138_2 := HX9000_2.out
    have hx138_3 := HX9000_3.out
    have hw138_3 := hx138_3
    have hw138_2 := hx138_2
    have hw138_1 := hx138_1
    have hw138_0 := hx138_0
    replace hx138_0 := cB HB.out hx138_0
    replace hx138_1 := cB HB.out hx138_1
    replace hx138_2 := cB HB.out hx138_2
    replace hx138_3 := cB HB.out hx138_3
    have HR138_3 := HR9000_3
    have HC138_3 := HC9000_3
    have hx140_0 := HX9000_0.out
    have hx140_1 := HX9000_1.out
    have hx140_2 := HX9000_2.out
    have hx140_3 := HX9000_3.out
    have hw140_3 := hx140_3
    have hw140_2 := hx140_2
    have hw140_1 := hx140_1
    have hw140_0 := hx140_0
    replace hx140_0 := cB HB.out hx140_0
    replace hx140_1 := cB HB.out hx140_1
    replace hx140_2 := cB HB.out hx140_2
    replace hx140_3 := cB HB.out hx140_3
    have HR140_3 := HR9000_3
    have HC140_3 := HC9000_3
    refine start_ (n := 44) (S := fun w' => w'.cell? (ad0_.add ((a0_1).toNat * 4)) = some (.int .i64 ((rd_T27 l0_0 a0_1).f0)) ∧ w'.cell? ⟨(ad0_.add ((a0_1).toNat * 4)).block, (ad0_.add ((a0_1).toNat * 4)).off + 1, none⟩ = some (.int .i64 ((rd_T27 l0_0 a0_1).f1)) ∧ w'.cell? ⟨(ad0_.add ((a0_1).toNat * 4)).block, (ad0_.add ((a0_1).toNat * 4)).off + 2, none⟩ = some (.int .i64 ((rd_T27 l0_0 a0_1).f2)) ∧ w'.cell? ⟨(ad0_.add ((a0_1).toNat * 4)).block, (ad0_.add ((a0_1).toNat * 4)).off + 3, none⟩ = some (.slice A9000_3 ((rd_T27 l0_0 a0_1).f3).length c9000_3) ∧ w'.cell? (ad0_.add ((a0_1).toNat * 4)) = some (.int .i64 ((rd_T27 l0_0 a0_1).f0)) ∧ w'.cell? ⟨(ad0_.add ((a0_1).toNat * 4)).block, (ad0_.add ((a0_1).toNat * 4)).off + 1, none⟩ = some (.int .i64 ((rd_T27 l0_0 a0_1).f1)) ∧ w'.cell? ⟨(ad0_.add ((a0_1).toNat * 4)).block, (ad0_.add ((a0_1).toNat * 4)).off + 2, none⟩ = some (.int .i64 ((rd_T27 l0_0 a0_1).f2)) ∧ w'.cell? ⟨(ad0_.add ((a0_1).toNat * 4)).block, (ad0_.add ((a0_1).toNat * 4)).off + 3, none⟩ = some (.slice A9000_3 ((rd_T27 l0_0 a0_1).f3).length c9000_3)) (ds := []) mkspec_l22Ok_at_0 (by kernel_rfl) rfl rfl ⟨(cB HB.out hw138_0), (cB HB.out hw138_1), (cB HB.out hw138_2), (cB HB.out hw138_3), (cB HB.out hw140_0), (cB HB.out hw140_1), (cB HB.out hw140_2), (cB HB.out hw140_3)⟩ (fun hHeld => ?_); refine with_tabW spec_l22Ok_at.tab1 spec_l22Ok_at.bits1 (fun HT_ HW_ => ?_)
    generalize w.drew = w13 at HB HR138_3 HR140_3 hx138_0 hx138_1 hx138_2 hx138_3 hx140_0 hx140_1 hx140_2 hx140_3 hHeld ⊢
    refine pQ (i := 0) (N := some 4) mkspec_l22Ok_at_1 ?_
    refine pQ (i := 1) (N := some 5) mkspec_l22Ok_at_2 ?_
    refine pQ (i := 2) (N := some 6) mkspec_l22Ok_at_3 ?_
    refine tQ (i := 3) (N := some 7) mkspec_l22Ok_at_4 rfl hHeld (Or.inl ⟨by rfl, by rintro w' ⟨s0, s1, s2, s3, s4, s5, s6, s7⟩; go_simp; with_reducible rfl⟩) ?_
    refine one_ (i := 4) (N := some 8) mkspec_l22Ok_at_5 rfl rfl (one_of HT_.out (by kernel_rfl)) (by decide) (fun K hK => ?_)
    refine goes_ Tryd.func33 (by kernel_rfl) rfl #[.int .i64 ((rd_T27 l0_0 a0_1).f0), .int .i64 (-1048576), .int .i64 1048576] (by rfl) rfl rfl gQ ?_
    with_reducible refine (spec_l00In.calls ((rd_T27 l0_0 a0_1).f0) (-1048576) 1048576 true _ A3.out).mono ?_
    rintro e w' ⟨rfl, ⟨nd, rfl⟩⟩
    refine ⟨_, rfl, ?_⟩
    refine hK.out _ _ ⟨(cB HB.out hw138_0), (cB HB.out hw138_1), (cB HB.out hw138_2), (cB HB.out hw138_3), (cB HB.out hw140_0), (cB HB.out hw140_1), (cB HB.out hw140_2), (cB HB.out hw140_3)⟩ (fun hHeld => ?_)
    clear hK K
    refine norm_ (a' := ?_) ?_ ?_
    rotate_left
    ·show Act.put _ (some 8) _ = _
     simp only [Act.put, sI, sZ, sS, i64_w, i32_w]
     rfl
    refine pQ (i := 5) (N := some 9) mkspec_l22Ok_at_6 ?_
    refine pQ (i := 6) (N := some 10) mkspec_l22Ok_at_7 ?_
    refine pQ (i := 7) (N := some 11) mkspec_l22Ok_at_8 ?_
    refine pQ (i := 8) (N := some 12) mkspec_l22Ok_at_9 ?_
    refine pQ (i := 9) (N := some 13) mkspec_l22Ok_at_10 ?_
    refine tQ (i := 10) (N := some 14) mkspec_l22Ok_at_11 rfl hHeld (Or.inl ⟨by rfl, by rintro w' ⟨s0, s1, s2, s3, s4, s5, s6, s7⟩; go_simp; with_reducible rfl⟩) ?_
    refine one_ (i := 11) (N := some 15) mkspec_l22Ok_at_12 rfl rfl (one_of HT_.out (by kernel_rfl)) (by decide) (fun K hK => ?_)
    refine goes_ Tryd.func33 (by kernel_rfl) rfl #[.int .i64 ((rd_T27 l0_0 a0_1).f1), .int .i64 (-1048576), .int .i64 1048576] (by rfl) rfl rfl gQ ?_
    with_reducible refine (spec_l00In.calls ((rd_T27 l0_0 a0_1).f1) (-1048576) 1048576 false _ A5.out).mono ?_
    rintro e w' ⟨rfl, ⟨nd, rfl⟩⟩
    refine ⟨_, rfl, ?_⟩
    refine hK.out _ _ ⟨(cB HB.out hw138_0), (cB HB.out hw138_1), (cB HB.out hw138_2), (cB HB.out hw138_3), (cB HB.out hw140_0), (cB HB.out hw140_1), (cB HB.out hw140_2), (cB HB.out hw140_3)⟩ (fun hHeld => ?_)
    clear hK K
    refine norm_ (a' := ?_) ?_ ?_
    rotate_left
    ·show Act.put _ (some 15) _ = _
     simp only [Act.put, sI, sZ, sS, i64_w, i32_w]
     rfl
    refine pQ (i := 12) (N := some 16) mkspec_l22Ok_at_13 ?_
    refine pQ (i := 13) (N := some 17) mkspec_l22Ok_at_14 ?_
    refine pQ (i := 14) (N := some 18) mkspec_l22Ok_at_15 ?_
    refine uQ (i := 15) (N := some 19) mkspec_l22Ok_at_16 ?_
    refine uQ (i := 16) (N := some 20) mkspec_l22Ok_at_17 ?_
    refine uQ (i := 17) (N := some 21) mkspec_l22Ok_at_18 ?_
    refine uQ (i := 18) (N := some 22) mkspec_l22Ok_at_19 ?_
    refine uQ (i := 19) (N := some 23) mkspec_l22Ok_at_20 ?_
    refine uQ (i := 20) (N := some 24) mkspec_l22Ok_at_21 ?_
    refine pQ (i := 21) (N := some 25) mkspec_l22Ok_at_22 ?_
    refine pQ (i := 22) (N := some 26) mkspec_l22Ok_at_23 ?_
    refine uQ (i := 23) (N := some 27) mkspec_l22Ok_at_24 ?_
    refine uQ (i := 24) (N := some 28) mkspec_l22Ok_at_25 ?_
    refine uQ (i := 25) (N := some 29) mkspec_l22Ok_at_26 ?_
    refine uQ (i := 26) (N := some 30) mkspec_l22Ok_at_27 ?_
    refine uQ (i := 27) (N := some 31) mkspec_l22Ok_at_28 ?_
    refine uQ (i := 28) (N := some 32) mkspec_l22Ok_at_29 ?_
    refine pQ (i := 29) (N := some 33) mkspec_l22Ok_at_30 ?_
    refine pQ (i := 30) (N := some 34) mkspec_l22Ok_at_31 ?_
    refine uQ (i := 31) (N := some 35) mkspec_l22Ok_at_32 ?_
    refine uQ (i := 32) (N := some 36) mkspec_l22Ok_at_33 ?_
    refine uQ (i := 33) (N := some 37) mkspec_l22Ok_at_34 ?_
    refine uQ (i := 34) (N := some 38) mkspec_l22Ok_at_35 ?_
    refine uQ (i := 35) (N := some 39) mkspec_l22Ok_at_37 ?_
    refine uQ (i := 36) (N := some 40) mkspec_l22Ok_at_39 ?_
    refine uQ (i := 37) (N := some 41) mkspec_l22Ok_at_41 ?_
    refine uQ (i := 38) (N := some 42) mkspec_l22Ok_at_43 ?_
    refine uQ (i := 39) (N := some 43) mkspec_l22Ok_at_44 ?_
    refine uQ (i := 40) (N := some 44) mkspec_l22Ok_at_45 ?_
    refine uQ (i := 41) (N := some 45) mkspec_l22Ok_at_46 ?_
    refine uQ (i := 42) (N := some 46) mkspec_l22Ok_at_47 ?_
    refine pQ (i := 43) (N := some 47) mkspec_l22Ok_at_48 ?_
    refine done_ (done_of HT_.out (by kernel_rfl)) ?_
    try go_wp2
    go_meet
    case rel => exact ⟨_, (true), rQ, H', ⟨by first | omega | exact Nat.le_refl _⟩, ⟨bQ⟩⟩
  ·replace c4 := Bool.eq_false_iff.mpr c4
   subst c4
   have H1 : (spec_l22Ok_at.j0 k true l0_0 a0_1) = some r := by rw [if_neg (show ¬ (false = true) by decide)] at H; exact H
   clear H
   have H := H1
   clear H1
   have H' := aM H
   clear H
   try go_wp2
   have n0_ := aM (below_drew1 HB.out)
   clear HB
   have HB := n0_
   clear n0_
   have hx138_0 := HX9000_0.out
   have hx138_1 := HX9000_1.out
   have hx138_2 := HX9000_2.out
   have hx138_3 := HX9000_3.out
   have hw138_3 := hx138_3
   have hw138_2 := hx138_2
   have hw138_1 := hx138_1
   have hw138_0 := hx138_0
   replace hx138_0 := cB HB.out hx138_0
   replace hx138_1 := cB HB.out hx138_1
   replace hx138_2 := cB HB.out hx138_2
   replace hx138_3 := cB HB.out hx138_3
   have HR138_3 := HR9000_3
   have HC138_3 := HC9000_3
   refine start_ (n := 44) (S := fun w' => w'.cell? (ad0_.add ((a0_1).toNat * 4)) = some (.int .i64 ((rd_T27 l0_0 a0_1).f0)) ∧ w'.cell? ⟨(ad0_.add ((a0_1).toNat * 4)).block, (ad0_.add ((a0_1).toNat * 4)).off + 1, none⟩ = some (.int .i64 ((rd_T27 l0_0 a0_1).f1)) ∧ w'.cell? ⟨(ad0_.add ((a0_1).toNat * 4)).block, (ad0_.add ((a0_1).toNat * 4)).off + 2, none⟩ = some (.int .i64 ((rd_T27 l0_0 a0_1).f2)) ∧ w'.cell? ⟨(ad0_.add ((a0_1).toNat * 4)).block, (ad0_.add ((a0_1).toNat * 4)).off + 3, none⟩ = some (.slice A9000_3 ((rd_T27 l0_0 a0_1).f3).length c9000_3)) (ds := []) mkspec_l22Ok_at_0 (by kernel_rfl) rfl rfl ⟨(cB HB.out hw138_0), (cB HB.out hw138_1), (cB HB.out hw138_2), (cB HB.out hw138_3)⟩ (fun hHeld => ?_); refine with_tabW spec_l22Ok_at.tab1 spec_l22Ok_at.bits1 (fun HT_ HW_ => ?_)
   generalize w.drew = w14 at HB HR138_3 hx138_0 hx138_1 hx138_2 hx138_3 hHeld ⊢
   refine pQ (i := 0) (N := some 4) mkspec_l22Ok_at_1 ?_
   refine pQ (i := 1) (N := some 5) mkspec_l22Ok_at_2 ?_
   refine pQ (i := 2) (N := some 6) mkspec_l22Ok_at_3 ?_
   refine tQ (i := 3) (N := some 7) mkspec_l22Ok_at_4 rfl hHeld (Or.inl ⟨by rfl, by rintro w' ⟨s0, s1, s2, s3⟩; go_simp; with_reducible rfl⟩) ?_
   refine one_ (i := 4) (N := some 8) mkspec_l22Ok_at_5 rfl rfl (one_of HT_.out (by kernel_rfl)) (by decide) (fun K hK => ?_)
   refine goes_ Tryd.func33 (by kernel_rfl) rfl #[.int .i64 ((rd_T27 l0_0 a0_1).f0), .int .i64 (-1048576), .int .i64 1048576] (by rfl) rfl rfl gQ ?_
   with_reducible refine (spec_l00In.calls ((rd_T27 l0_0 a0_1).f0) (-1048576) 1048576 false _ A3.out).mono ?_
   rintro e w' ⟨rfl, ⟨nd, rfl⟩⟩
   refine ⟨_, rfl, ?_⟩
   refine hK.out _ _ ⟨(cB HB.out hw138_0), (cB HB.out hw138_1), (cB HB.out hw138_2), (cB HB.out hw138_3)⟩ (fun hHeld => ?_)
   clear hK K
   refine norm_ (a' := ?_) ?_ ?_
   rotate_left
   ·show Act.put _ (some 8) _ = _
    simp only [Act.put, sI, sZ, sS, i64_w, i32_w]
    rfl
   refine pQ (i := 5) (N := some 9) mkspec_l22Ok_at_6 ?_
   refine pQ (i := 6) (N := some 10) mkspec_l22Ok_at_7 ?_
   refine uQ (i := 7) (N := some 11) mkspec_l22Ok_at_8 ?_
   refine uQ (i := 8) (N := some 12) mkspec_l22Ok_at_9 ?_
   refine uQ (i := 9) (N := some 13) mkspec_l22Ok_at_10 ?_
   refine uQ (i := 10) (N := some 14) mkspec_l22Ok_at_11 ?_
   refine uQ (i := 11) (N := some 15) mkspec_l22Ok_at_12 ?_
   refine uQ (i := 12) (N := some 16) mkspec_l22Ok_at_13 ?_
   refine pQ (i := 13) (N := some 17) mkspec_l22Ok_at_14 ?_
   refine pQ (i := 14) (N := some 18) mkspec_l22Ok_at_15 ?_
   refine uQ (i := 15) (N := some 19) mkspec_l22Ok_at_16 ?_
   refine uQ (i := 16) (N := some 20) mkspec_l22Ok_at_17 ?_
   refine uQ (i := 17) (N := some 21) mkspec_l22Ok_at_18 ?_
   refine uQ (i := 18) (N := some 22) mkspec_l22Ok_at_19 ?_
   refine uQ (i := 19) (N := some 23) mkspec_l22Ok_at_20 ?_
   refine uQ (i := 20) (N := some 24) mkspec_l22Ok_at_21 ?_
   refine pQ (i := 21) (N := some 25) mkspec_l22Ok_at_22 ?_
   refine pQ (i := 22) (N := some 26) mkspec_l22Ok_at_23 ?_
   refine uQ (i := 23) (N := some 27) mkspec_l22Ok_at_24 ?_
   refine uQ (i := 24) (N := some 28) mkspec_l22Ok_at_25 ?_
   refine uQ (i := 25) (N := some 29) mkspec_l22Ok_at_26 ?_
   refine uQ (i := 26) (N := some 30) mkspec_l22Ok_at_27 ?_
   refine uQ (i := 27) (N := some 31) mkspec_l22Ok_at_28 ?_
   refine uQ (i := 28) (N := some 32) mkspec_l22Ok_at_29 ?_
   refine pQ (i := 29) (N := some 33) mkspec_l22Ok_at_30 ?_
   refine pQ (i := 30) (N := some 34) mkspec_l22Ok_at_31 ?_
   refine uQ (i := 31) (N := some 35) mkspec_l22Ok_at_32 ?_
   refine uQ (i := 32) (N := some 36) mkspec_l22Ok_at_33 ?_
   refine uQ (i := 33) (N := some 37) mkspec_l22Ok_at_34 ?_
   refine uQ (i := 34) (N := some 38) mkspec_l22Ok_at_35 ?_
   refine uQ (i := 35) (N := some 39) mkspec_l22Ok_at_37 ?_
   refine uQ (i := 36) (N := some 40) mkspec_l22Ok_at_39 ?_
   refine uQ (i := 37) (N := some 41) mkspec_l22Ok_at_41 ?_
   refine uQ (i := 38) (N := some 42) mkspec_l22Ok_at_43 ?_
   refine uQ (i := 39) (N := some 43) mkspec_l22Ok_at_44 ?_
   refine uQ (i := 40) (N := some 44) mkspec_l22Ok_at_45 ?_
   refine uQ (i := 41) (N := some 45) mkspec_l22Ok_at_46 ?_
   refine uQ (i := 42) (N := some 46) mkspec_l22Ok_at_47 ?_
   refine pQ (i := 43) (N := some 47) mkspec_l22Ok_at_48 ?_
   refine done_ (done_of HT_.out (by kernel_rfl)) ?_
   try go_wp2
   go_meet
   case rel => exact ⟨_, (true), rQ, H', ⟨by first | omega | exact Nat.le_refl _⟩, ⟨bQ⟩⟩
 case rest =>
  clear HC2
  try clear hx1
  try clear p2
  try clear c3
  try clear c4
  try clear c6
  try clear c9
  try clear hx13
  try clear hx14
  try clear hx138_0
  try clear hx138_1
  try clear hx138_2
  try clear hx138_3
  try clear hx140_0
  try clear hx140_1
  try clear hx140_2
  try clear hx140_3
  obtain ⟨kq, x47_1, rfl, HA, HJ1, HB⟩ := hcut
  cases kq with
  | zero => exact absurd HA.out (by simp [spec_l22Ok_at.j0])
  | succ kj1 =>
   have H := HA.out
   clear HA
   simp only [spec_l22Ok_at.j0] at H
   by_cases c15 : x47_1 = true
   ·subst c15
    have H1 : (some false) = some r := by rw [if_pos rfl] at H; exact H
    clear H
    have H := H1
    clear H1
    obtain rfl := Option.some.inj H
    go_wp2
    go_ret
    exact ⟨eQ, bQ⟩
   ·replace c15 := Bool.eq_false_iff.mpr c15
    subst c15
    have H1 : (spec_l22Ok_at.l0 kj1 0 l0_0 a0_1) = some r := by rw [if_neg (show ¬ (false = true) by decide)] at H; exact H
    clear H
    have H := H1
    clear H1
    have H' := aM H
    clear H
    go_wp2
    go_loopg [3] kj1 (fun kq v3 w' => ∃ (x3_2 : Int), v3 = .int .i64 x3_2 ∧ Aside0 (spec_l22Ok_at.l0 kq x3_2 l0_0 a0_1 = some r) ∧ Aside0 (kq ≤ kj1) ∧ Aside0 (Below w.heap.size w w'))
    case atStart => exact ⟨(0), rQ, H', ⟨Nat.le_refl _⟩, ⟨bQ⟩⟩
    case round =>
     clear H'
     try clear c1
     try clear hx1
     try clear p2
     try clear c3
     try clear c4
     try clear c6
     try clear c9
     try clear hx13
     try clear hx14
     try clear c15
     try clear hx138_0
     try clear hx138_1
     try clear hx138_2
     try clear hx138_3
     try clear hx140_0
     try clear hx140_1
     try clear hx140_2
     try clear hx140_3
     try clear p2
     obtain ⟨x3_2, rfl, HA, HK2, HB⟩ := hrel
     cases gk with
     | zero => exact absurd HA.out (by simp [spec_l22Ok_at.l0])
     | succ k2 =>
      have H := HA.out
      clear HA
      simp only [spec_l22Ok_at.l0] at H
      by_cases c16 : x3_2 < (((rd_T27 l0_0 a0_1).f3).length : Int)
      ·rw [if_pos c16] at H
       have c16b0 : decide (x3_2 < (((rd_T27 l0_0 a0_1).f3).length : Int)) = true := decide_eq_true c16
       clear c16
       by_cases c17 : 0 ≤ x3_2
       ·rw [if_pos c17] at H
        have c17b0 : decide (0 ≤ x3_2) = true := decide_eq_true c17
        clear c17
        replace H := Option.bind_eq_some_iff.mp H
        obtain ⟨t151, A180, H⟩ := H
        replace H : (if t151 = true then (spec_l22Ok_at.l0 k2 (wrap64 (x3_2 + 1)) l0_0 a0_1) else (some false)) = some r := H
        have A18 := aM A180
        clear A180
        by_cases c19 : t151 = true
        ·subst c19
         have H1 : (spec_l22Ok_at.l0 k2 (wrap64 (x3_2 + 1)) l0_0 a0_1) = some r := by rw [if_pos rfl] at H; exact H
         clear H
         have H := H1
         clear H1
         have H' := aM H
         clear H
         have hx147_0 := HX9000_0.out
         have hx147_1 := HX9000_1.out
         have hx147_2 := HX9000_2.out
         have hx147_3 := HX9000_3.out
         replace hx147_0 := cB HB.out hx147_0
         replace hx147_1 := cB HB.out hx147_1
         replace hx147_2 := cB HB.out hx147_2
         replace hx147_3 := cB HB.out hx147_3
         have HR147_3 := HR9000_3
         have HC147_3 := HC9000_3
         try go_wp2
         have n0_ := aM (below_drew1 HB.out)
         clear HB
         have HB := n0_
         clear n0_
         have hx148_0 := HX9000_0.out
         have hx148_1 := HX9000_1.out
         have hx148_2 := HX9000_2.out
         have hx148_3 := HX9000_3.out
         have hw148_3 := hx148_3
         have hw148_2 := hx148_2
         have hw148_1 := hx148_1
         have hw148_0 := hx148_0
         replace hx148_0 := cB HB.out hx148_0
         replace hx148_1 := cB HB.out hx148_1
         replace hx148_2 := cB HB.out hx148_2
         replace hx148_3 := cB HB.out hx148_3
         have HR148_3 := HR9000_3
         have HC148_3 := HC9000_3
         have p149 : 0 ≤ (x3_2 : Int) := dA
         have q149 : x3_2 < (((rd_T27 l0_0 a0_1).f3).length : Int) := dA
         obtain ⟨ad149, e149, hx149_0⟩ := Kd.at_string HR148_3.out x3_2 p149 q149
         have hw149_0 := hx149_0
         cases e149
         replace hx149_0 := cB HB.out hx149_0
         replace p149 := eq_true p149
         replace q149 := eq_true q149
         have hx150_0 := HX9000_0.out
         have hx150_1 := HX9000_1.out
         have hx150_2 := HX9000_2.out
         have hx150_3 := HX9000_3.out
         have hw150_3 := hx150_3
         have hw150_2 := hx150_2
         have hw150_1 := hx150_1
         have hw150_0 := hx150_0
         replace hx150_0 := cB HB.out hx150_0
         replace hx150_1 := cB HB.out hx150_1
         replace hx150_2 := cB HB.out hx150_2
         replace hx150_3 := cB HB.out hx150_3
         have HR150_3 := HR9000_3
         have HC150_3 := HC9000_3
         refine start_ (n := 13) (S := fun w' => w'.cell? (ad0_.add ((a0_1).toNat * 4)) = some (.int .i64 ((rd_T27 l0_0 a0_1).f0)) ∧ w'.cell? ⟨(ad0_.add ((a0_1).toNat * 4)).block, (ad0_.add ((a0_1).toNat * 4)).off + 1, none⟩ = some (.int .i64 ((rd_T27 l0_0 a0_1).f1)) ∧ w'.cell? ⟨(ad0_.add ((a0_1).toNat * 4)).block, (ad0_.add ((a0_1).toNat * 4)).off + 2, none⟩ = some (.int .i64 ((rd_T27 l0_0 a0_1).f2)) ∧ w'.cell? ⟨(ad0_.add ((a0_1).toNat * 4)).block, (ad0_.add ((a0_1).toNat * 4)).off + 3, none⟩ = some (.slice (some ad149) ((rd_T27 l0_0 a0_1).f3).length c9000_3) ∧ w'.cell? (ad149.add (x3_2).toNat) = some (.string (rdOf ByteArray.empty ((rd_T27 l0_0 a0_1).f3) x3_2)) ∧ w'.cell? (ad0_.add ((a0_1).toNat * 4)) = some (.int .i64 ((rd_T27 l0_0 a0_1).f0)) ∧ w'.cell? ⟨(ad0_.add ((a0_1).toNat * 4)).block, (ad0_.add ((a0_1).toNat * 4)).off + 1, none⟩ = some (.int .i64 ((rd_T27 l0_0 a0_1).f1)) ∧ w'.cell? ⟨(ad0_.add ((a0_1).toNat * 4)).block, (ad0_.add ((a0_1).toNat * 4)).off + 2, none⟩ = some (.int .i64 ((rd_T27 l0_0 a0_1).f2)) ∧ w'.cell? ⟨(ad0_.add ((a0_1).toNat * 4)).block, (ad0_.add ((a0_1).toNat * 4)).off + 3, none⟩ = some (.slice (some ad149) ((rd_T27 l0_0 a0_1).f3).length c9000_3)) (ds := []) mkspec_l22Ok_at_49 (by kernel_rfl) rfl rfl ⟨(cB HB.out hw148_0), (cB HB.out hw148_1), (cB HB.out hw148_2), (cB HB.out hw148_3), (cB HB.out hw149_0), (cB HB.out hw150_0), (cB HB.out hw150_1), (cB HB.out hw150_2), (cB HB.out hw150_3)⟩ (fun hHeld => ?_); refine with_tabW spec_l22Ok_at.tab6 spec_l22Ok_at.bits6 (fun HT_ HW_ => ?_)
         generalize wr.drew = w20 at HB HR148_3 HR150_3 hx148_0 hx148_1 hx148_2 hx148_3 hx149_0 hx150_0 hx150_1 hx150_2 hx150_3 hHeld ⊢
         refine pQ (i := 0) (N := some 57) mkspec_l22Ok_at_50 ?_
         refine pQ (i := 1) (N := some 58) mkspec_l22Ok_at_51 ?_
         refine pQ (i := 2) (N := some 59) mkspec_l22Ok_at_52 ?_
         refine pQ (i := 4) (N := some 61) mkspec_l22Ok_at_53 ?_
         refine pQ (i := 7) (N := some 64) mkspec_l22Ok_at_54 ?_
         refine pQ (i := 8) (N := some 65) mkspec_l22Ok_at_55 ?_
         refine pQ (i := 9) (N := some 66) mkspec_l22Ok_at_56 ?_
         refine tQ (i := 3) (N := some 60) mkspec_l22Ok_at_57 rfl hHeld (Or.inl ⟨by rfl, by rintro w' ⟨s0, s1, s2, s3, s4, s5, s6, s7, s8⟩; go_simp; with_reducible rfl⟩) ?_
         refine pQ (i := 5) (N := some 62) mkspec_l22Ok_at_58 ?_
         refine tQ (i := 6) (N := some 63) mkspec_l22Ok_at_59 rfl hHeld (Or.inl ⟨by rfl, by rintro w' ⟨s0, s1, s2, s3, s4, s5, s6, s7, s8⟩; go_simp; with_reducible rfl⟩) ?_
         refine tQ (i := 10) (N := some 67) mkspec_l22Ok_at_60 rfl hHeld (Or.inl ⟨by rfl, by rintro w' ⟨s0, s1, s2, s3, s4, s5, s6, s7, s8⟩; go_simp; with_reducible rfl⟩) ?_
         refine one_ (i := 11) (N := some 68) mkspec_l22Ok_at_61 rfl rfl (one_of HT_.out (by kernel_rfl)) (by decide) (fun K hK => ?_)
         refine goes_ Tryd.func50 (by kernel_rfl) rfl #[.string (rdOf ByteArray.empty ((rd_T27 l0_0 a0_1).f3) x3_2), .int .i64 ((rd_T27 l0_0 a0_1).f2)] (by rfl) rfl rfl gQ ?_
         with_reducible refine (spec_l22Row.calls k2 (rdOf ByteArray.empty ((rd_T27 l0_0 a0_1).f3) x3_2) ((rd_T27 l0_0 a0_1).f2) true _ A18.out).mono ?_
         rintro e w' ⟨rfl, ⟨nd, rfl⟩⟩
         refine ⟨_, rfl, ?_⟩
         refine hK.out _ _ ⟨(cB HB.out hw148_0), (cB HB.out hw148_1), (cB HB.out hw148_2), (cB HB.out hw148_3), (cB HB.out hw149_0), (cB HB.out hw150_0), (cB HB.out hw150_1), (cB HB.out hw150_2), (cB HB.out hw150_3)⟩ (fun hHeld => ?_)
         clear hK K
         refine norm_ (a' := ?_) ?_ ?_
         rotate_left
         ·show Act.put _ (some 68) _ = _
          simp only [Act.put, sI, sZ, sS, i64_w, i32_w]
          rfl
         refine pQ (i := 12) (N := some 69) mkspec_l22Ok_at_62 ?_
         refine done_ (done_of HT_.out (by kernel_rfl)) ?_
         try go_wp2
         go_roundg k2
         case measure => have := HJ1.out; have := HK2.out; omega
         case rel => exact ⟨(wrap64 (x3_2 + 1)), rQ, H', ⟨by have := HJ1.out; have := HK2.out; omega⟩, ⟨bQ⟩⟩
        ·replace c19 := Bool.eq_false_iff.mpr c19
         subst c19
         have H1 : (some false) = some r := by rw [if_neg (show ¬ (false = true) by decide)] at H; exact H
         clear H
         have H := H1
         clear H1
         obtain rfl := Option.some.inj H
         have hx147_0 := HX9000_0.out
         have hx147_1 := HX9000_1.out
         have hx147_2 := HX9000_2.out
         have hx147_3 := HX9000_3.out
         replace hx147_0 := cB HB.out hx147_0
         replace hx147_1 := cB HB.out hx147_1
         replace hx147_2 := cB HB.out hx147_2
         replace hx147_3 := cB HB.out hx147_3
         have HR147_3 := HR9000_3
         have HC147_3 := HC9000_3
         try go_wp2
         have n0_ := aM (below_drew1 HB.out)
         clear HB
         have HB := n0_
         clear n0_
         have hx148_0 := HX9000_0.out
         have hx148_1 := HX9000_1.out
         have hx148_2 := HX9000_2.out
         have hx148_3 := HX9000_3.out
         have hw148_3 := hx148_3
         have hw148_2 := hx148_2
         have hw148_1 := hx148_1
         have hw148_0 := hx148_0
         replace hx148_0 := cB HB.out hx148_0
         replace hx148_1 := cB HB.out hx148_1
         replace hx148_2 := cB HB.out hx148_2
         replace hx148_3 := cB HB.out hx148_3
         have HR148_3 := HR9000_3
         have HC148_3 := HC9000_3
         have p149 : 0 ≤ (x3_2 : Int) := dA
         have q149 : x3_2 < (((rd_T27 l0_0 a0_1).f3).length : Int) := dA
         obtain ⟨ad149, e149, hx149_0⟩ := Kd.at_string HR148_3.out x3_2 p149 q149
         have hw149_0 := hx149_0
         cases e149
         replace hx149_0 := cB HB.out hx149_0
         replace p149 := eq_true p149
         replace q149 := eq_true q149
         have hx150_0 := HX9000_0.out
         have hx150_1 := HX9000_1.out
         have hx150_2 := HX9000_2.out
         have hx150_3 := HX9000_3.out
         have hw150_3 := hx150_3
         have hw150_2 := hx150_2
         have hw150_1 := hx150_1
         have hw150_0 := hx150_0
         replace hx150_0 := cB HB.out hx150_0
         replace hx150_1 := cB HB.out hx150_1
         replace hx150_2 := cB HB.out hx150_2
         replace hx150_3 := cB HB.out hx150_3
         have HR150_3 := HR9000_3
         have HC150_3 := HC9000_3
         refine start_ (n := 13) (S := fun w' => w'.cell? (ad0_.add ((a0_1).toNat * 4)) = some (.int .i64 ((rd_T27 l0_0 a0_1).f0)) ∧ w'.cell? ⟨(ad0_.add ((a0_1).toNat * 4)).block, (ad0_.add ((a0_1).toNat * 4)).off + 1, none⟩ = some (.int .i64 ((rd_T27 l0_0 a0_1).f1)) ∧ w'.cell? ⟨(ad0_.add ((a0_1).toNat * 4)).block, (ad0_.add ((a0_1).toNat * 4)).off + 2, none⟩ = some (.int .i64 ((rd_T27 l0_0 a0_1).f2)) ∧ w'.cell? ⟨(ad0_.add ((a0_1).toNat * 4)).block, (ad0_.add ((a0_1).toNat * 4)).off + 3, none⟩ = some (.slice (some ad149) ((rd_T27 l0_0 a0_1).f3).length c9000_3) ∧ w'.cell? (ad149.add (x3_2).toNat) = some (.string (rdOf ByteArray.empty ((rd_T27 l0_0 a0_1).f3) x3_2)) ∧ w'.cell? (ad0_.add ((a0_1).toNat * 4)) = some (.int .i64 ((rd_T27 l0_0 a0_1).f0)) ∧ w'.cell? ⟨(ad0_.add ((a0_1).toNat * 4)).block, (ad0_.add ((a0_1).toNat * 4)).off + 1, none⟩ = some (.int .i64 ((rd_T27 l0_0 a0_1).f1)) ∧ w'.cell? ⟨(ad0_.add ((a0_1).toNat * 4)).block, (ad0_.add ((a0_1).toNat * 4)).off + 2, none⟩ = some (.int .i64 ((rd_T27 l0_0 a0_1).f2)) ∧ w'.cell? ⟨(ad0_.add ((a0_1).toNat * 4)).block, (ad0_.add ((a0_1).toNat * 4)).off + 3, none⟩ = some (.slice (some ad149) ((rd_T27 l0_0 a0_1).f3).length c9000_3)) (ds := []) mkspec_l22Ok_at_49 (by kernel_rfl) rfl rfl ⟨(cB HB.out hw148_0), (cB HB.out hw148_1), (cB HB.out hw148_2), (cB HB.out hw148_3), (cB HB.out hw149_0), (cB HB.out hw150_0), (cB HB.out hw150_1), (cB HB.out hw150_2), (cB HB.out hw150_3)⟩ (fun hHeld => ?_); refine with_tabW spec_l22Ok_at.tab6 spec_l22Ok_at.bits6 (fun HT_ HW_ => ?_)
         generalize wr.drew = w21 at HB HR148_3 HR150_3 hx148_0 hx148_1 hx148_2 hx148_3 hx149_0 hx150_0 hx150_1 hx150_2 hx150_3 hHeld ⊢
         refine pQ (i := 0) (N := some 57) mkspec_l22Ok_at_50 ?_
         refine pQ (i := 1) (N := some 58) mkspec_l22Ok_at_51 ?_
         refine pQ (i := 2) (N := some 59) mkspec_l22Ok_at_52 ?_
         refine pQ (i := 4) (N := some 61) mkspec_l22Ok_at_53 ?_
         refine pQ (i := 7) (N := some 64) mkspec_l22Ok_at_54 ?_
         refine pQ (i := 8) (N := some 65) mkspec_l22Ok_at_55 ?_
         refine pQ (i := 9) (N := some 66) mkspec_l22Ok_at_56 ?_
         refine tQ (i := 3) (N := some 60) mkspec_l22Ok_at_57 rfl hHeld (Or.inl ⟨by rfl, by rintro w' ⟨s0, s1, s2, s3, s4, s5, s6, s7, s8⟩; go_simp; with_reducible rfl⟩) ?_
         refine pQ (i := 5) (N := some 62) mkspec_l22Ok_at_58 ?_
         refine tQ (i := 6) (N := some 63) mkspec_l22Ok_at_59 rfl hHeld (Or.inl ⟨by rfl, by rintro w' ⟨s0, s1, s2, s3, s4, s5, s6, s7, s8⟩; go_simp; with_reducible rfl⟩) ?_
         refine tQ (i := 10) (N := some 67) mkspec_l22Ok_at_60 rfl hHeld (Or.inl ⟨by rfl, by rintro w' ⟨s0, s1, s2, s3, s4, s5, s6, s7, s8⟩; go_simp; with_reducible rfl⟩) ?_
         refine one_ (i := 11) (N := some 68) mkspec_l22Ok_at_61 rfl rfl (one_of HT_.out (by kernel_rfl)) (by decide) (fun K hK => ?_)
         refine goes_ Tryd.func50 (by kernel_rfl) rfl #[.string (rdOf ByteArray.empty ((rd_T27 l0_0 a0_1).f3) x3_2), .int .i64 ((rd_T27 l0_0 a0_1).f2)] (by rfl) rfl rfl gQ ?_
         with_reducible refine (spec_l22Row.calls k2 (rdOf ByteArray.empty ((rd_T27 l0_0 a0_1).f3) x3_2) ((rd_T27 l0_0 a0_1).f2) false _ A18.out).mono ?_
         rintro e w' ⟨rfl, ⟨nd, rfl⟩⟩
         refine ⟨_, rfl, ?_⟩
         refine hK.out _ _ ⟨(cB HB.out hw148_0), (cB HB.out hw148_1), (cB HB.out hw148_2), (cB HB.out hw148_3), (cB HB.out hw149_0), (cB HB.out hw150_0), (cB HB.out hw150_1), (cB HB.out hw150_2), (cB HB.out hw150_3)⟩ (fun hHeld => ?_)
         clear hK K
         refine norm_ (a' := ?_) ?_ ?_
         rotate_left
         ·show Act.put _ (some 68) _ = _
          simp only [Act.put, sI, sZ, sS, i64_w, i32_w]
          rfl
         refine pQ (i := 12) (N := some 69) mkspec_l22Ok_at_62 ?_
         refine done_ (done_of HT_.out (by kernel_rfl)) ?_
         try go_wp2
         go_ret
         exact ⟨eQ, bQ⟩
       ·rw [if_neg c17] at H
        exact absurd H (by simp)
      ·rw [if_neg c16] at H
       have c16b0 : decide (x3_2 < (((rd_T27 l0_0 a0_1).f3).length : Int)) = false := decide_eq_false c16
       clear c16
       obtain rfl := Option.some.inj H
       have hx147_0 := HX9000_0.out
       have hx147_1 := HX9000_1.out
       have hx147_2 := HX9000_2.out
       have hx147_3 := HX9000_3.out
       replace hx147_0 := cB HB.out hx147_0
       replace hx147_1 := cB HB.out hx147_1
       replace hx147_2 := cB HB.out hx147_2
       replace hx147_3 := cB HB.out hx147_3
       have HR147_3 := HR9000_3
       have HC147_3 := HC9000_3
       go_wp2
       go_ret
       exact ⟨eQ, bQ⟩

end Go.Proofs.YthngjfipdfckkaaDoor.QFnExactDifferentPixels
