/- What some Go functions answer, each as a Lean function, and that the machine answers so: written by a program of this session out of the translation. -/
import Derived.Test.YthngjfipdfckkaaDoorQFnExactDifferentPixelsx0
import Derived.Test.YthngjfipdfckkaaDoorQFnExactDifferentPixelsx1
import Derived.Test.YthngjfipdfckkaaDoorQFnExactDifferentPixelsx4
import Derived.Test.YthngjfipdfckkaaDoorQFnExactDifferentPixelsx5
namespace Go.Proofs.YthngjfipdfckkaaDoor.QFnExactDifferentPixels
open Go.RowKit Go.Proofs.YthngjfipdfckkaaDoorW.PrintWords Go.Proofs.YthngjfipdfckkaaDoorW.PrintLast Go.Proofs.YthngjfipdfckkaaDoorW.PrintMore Go.Proofs.YthngjfipdfckkaaDoor.Rp
attribute [local go_sem] max2_int min2_int max_two min_two max_three min_three max_four min_four   -- for this text's walks alone
set_option linter.unusedVariables false
set_option linter.unusedSimpArgs false

/-! ### laws_FnExactDifferentPixels: function 5 -/
mutual
abbrev mklaws_F769_0 : Array Bool := #[ff,ff,ff,ff,ff,ff,ff,ff,ff,ff]
abbrev mklaws_F769_1 : Array Bool := #[tt,ff,ff,ff,ff,ff,ff,ff,ff,ff]
abbrev mklaws_F769_2 : Array Bool := #[tt,ff,tt,ff,ff,ff,ff,ff,ff,ff]
abbrev mklaws_F769_3 : Array Bool := #[tt,tt,tt,ff,ff,ff,ff,ff,ff,ff]
abbrev mklaws_F769_4 : Array Bool := #[tt,tt,tt,tt,ff,ff,ff,ff,ff,ff]
abbrev mklaws_F769_5 : Array Bool := #[tt,tt,tt,tt,tt,ff,ff,ff,ff,ff]
abbrev mklaws_F769_6 : Array Bool := #[tt,tt,tt,tt,tt,tt,ff,ff,ff,ff]
abbrev mklaws_F769_7 : Array Bool := #[tt,tt,tt,tt,tt,tt,tt,ff,ff,ff]
abbrev mklaws_F769_8 : Array Bool := #[tt,tt,tt,tt,tt,tt,tt,tt,ff,ff]
abbrev mklaws_F769_9 : Array Bool := #[tt,tt,tt,tt,tt,tt,tt,tt,tt,ff]
abbrev mklaws_F769_10 : Array Bool := #[tt,tt,tt,tt,tt,tt,tt,tt,tt,tt]
abbrev mklaws_F769_11 : Array Bool := #[ff,ff,ff,ff,ff]
abbrev mklaws_F769_12 : Array Bool := #[tt,ff,ff,ff,ff]
abbrev mklaws_F769_13 : Array Bool := #[tt,tt,ff,ff,ff]
abbrev mklaws_F769_14 : Array Bool := #[tt,tt,tt,ff,ff]
abbrev mklaws_F769_15 : Array Bool := #[tt,tt,tt,tt,ff]
abbrev mklaws_F769_16 : Array Bool := #[tt,tt,tt,tt,tt]
def laws_FnExactDifferentPixels.j0 : Nat → Int → Int → Int → Int → List ByteArray → Int → Int → Int → List ByteArray → Option (Bool)
 | 0, _, _, _, _, _, _, _, _, _ => none
 | k + 1, x5, x187000, x187001, x187002, x187003, x188000, x188001, x188002, x188003 => (laws_szBitmap.f k x188000 x188001 x188002 x188003 x5).bind fun t189 => (if t189 < 0 then (some true) else (laws_FnExactDifferentPixels.j1 k x187000 x187001 x187002 x187003 x188000 x188001 x188002 x188003))
def laws_FnExactDifferentPixels.j1 : Nat → Int → Int → Int → List ByteArray → Int → Int → Int → List ByteArray → Option (Bool)
 | 0, _, _, _, _, _, _, _, _ => none
 | k + 1, x187000, x187001, x187002, x187003, x188000, x188001, x188002, x188003 => (laws_toBitmap.f k x187000 x187001 x187002 x187003).bind fun bt190 => ((laws_toBitmap.f k x188000 x188001 x188002 x188003).bind fun bt196 => ((spec_DifferentPixels.f k bt190.1 bt190.2.1 bt190.2.2.1 bt190.2.2.2 bt196.1 bt196.2.1 bt196.2.2.1 bt196.2.2.2).bind fun bt202 => ((laws_toBitmap.f k x187000 x187001 x187002 x187003).bind fun bt204 => ((laws_toBitmap.f k x188000 x188001 x188002 x188003).bind fun bt211 => ((impl_DifferentPixels.f k bt204.1 bt204.2.1 bt204.2.2.1 bt204.2.2.2 bt211.1 bt211.2.1 bt211.2.2.1 bt211.2.2.2).bind fun bt218 => (if bt218.1 = bt202.1 then (laws_FnExactDifferentPixels.j2 k (bt218.2 != bt202.2) x187000 x187001 x187002 x187003 x188000 x188001 x188002 x188003 bt204.1 bt204.2.1 bt204.2.2.1 bt204.2.2.2 bt211.1 bt211.2.1 bt211.2.2.1 bt211.2.2.2) else (laws_FnExactDifferentPixels.j2 k true x187000 x187001 x187002 x187003 x188000 x188001 x188002 x188003 bt204.1 bt204.2.1 bt204.2.2.1 bt204.2.2.2 bt211.1 bt211.2.1 bt211.2.2.1 bt211.2.2.2)))))))
def laws_FnExactDifferentPixels.j2 : Nat → Bool → Int → Int → Int → List ByteArray → Int → Int → Int → List ByteArray → Int → Int → Int → List ByteArray → Int → Int → Int → List ByteArray → Option (Bool)
 | 0, _, _, _, _, _, _, _, _, _, _, _, _, _, _, _, _, _ => none
 | k + 1, x47, x187000, x187001, x187002, x187003, x188000, x188001, x188002, x188003, x211000, x211001, x211002, x211003, x218000, x218001, x218002, x218003 => if x47 = true then (some false) else (laws_FnExactDifferentPixels.j3 k x187000 x187001 x187002 x187003 x188000 x188001 x188002 x188003 x211000 x211001 x211002 x211003 x218000 x218001 x218002 x218003)
def laws_FnExactDifferentPixels.j3 : Nat → Int → Int → Int → List ByteArray → Int → Int → Int → List ByteArray → Int → Int → Int → List ByteArray → Int → Int → Int → List ByteArray → Option (Bool)
 | 0, _, _, _, _, _, _, _, _, _, _, _, _, _, _, _, _ => none
 | k + 1, x187000, x187001, x187002, x187003, x188000, x188001, x188002, x188003, x211000, x211001, x211002, x211003, x218000, x218001, x218002, x218003 => (laws_toBitmap.f k x187000 x187001 x187002 x187003).bind fun bt220 => ((laws_eqBitmap.f k x211000 x211001 x211002 x211003 bt220.1 bt220.2.1 bt220.2.2.1 bt220.2.2.2).bind fun t226 => (if t226 = true then (laws_FnExactDifferentPixels.j4 k x188000 x188001 x188002 x188003 x218000 x218001 x218002 x218003) else (some false)))
def laws_FnExactDifferentPixels.j4 : Nat → Int → Int → Int → List ByteArray → Int → Int → Int → List ByteArray → Option (Bool)
 | 0, _, _, _, _, _, _, _, _ => none
 | k + 1, x188000, x188001, x188002, x188003, x218000, x218001, x218002, x218003 => (laws_toBitmap.f k x188000 x188001 x188002 x188003).bind fun bt227 => ((laws_eqBitmap.f k x218000 x218001 x218002 x218003 bt227.1 bt227.2.1 bt227.2.2.1 bt227.2.2.2).bind fun t233 => (if t233 = true then (some true) else (some false)))
end
def laws_FnExactDifferentPixels.f (k : Nat) (a0_0 : Int) (a0_1 : Int) (a0_2 : Int) (l0_3 : List ByteArray) (a1_0 : Int) (a1_1 : Int) (a1_2 : Int) (l1_3 : List ByteArray) : Option (Bool) := (laws_szBitmap.f k a0_0 a0_1 a0_2 l0_3 1048576).bind fun t188 => (if t188 < 0 then (some true) else (laws_FnExactDifferentPixels.j0 k t188 a0_0 a0_1 a0_2 l0_3 a1_0 a1_1 a1_2 l1_3))
theorem laws_FnExactDifferentPixels.mono_l : ∀ k, (∀ y0 y1 y2 y3 y4 y5 y6 y7 y8, LeO (laws_FnExactDifferentPixels.j0 k y0 y1 y2 y3 y4 y5 y6 y7 y8) (laws_FnExactDifferentPixels.j0 (k + 1) y0 y1 y2 y3 y4 y5 y6 y7 y8)) ∧ (∀ y0 y1 y2 y3 y4 y5 y6 y7, LeO (laws_FnExactDifferentPixels.j1 k y0 y1 y2 y3 y4 y5 y6 y7) (laws_FnExactDifferentPixels.j1 (k + 1) y0 y1 y2 y3 y4 y5 y6 y7)) ∧ (∀ y0 y1 y2 y3 y4 y5 y6 y7 y8 y9 y10 y11 y12 y13 y14 y15 y16, LeO (laws_FnExactDifferentPixels.j2 k y0 y1 y2 y3 y4 y5 y6 y7 y8 y9 y10 y11 y12 y13 y14 y15 y16) (laws_FnExactDifferentPixels.j2 (k + 1) y0 y1 y2 y3 y4 y5 y6 y7 y8 y9 y10 y11 y12 y13 y14 y15 y16)) ∧ (∀ y0 y1 y2 y3 y4 y5 y6 y7 y8 y9 y10 y11 y12 y13 y14 y15, LeO (laws_FnExactDifferentPixels.j3 k y0 y1 y2 y3 y4 y5 y6 y7 y8 y9 y10 y11 y12 y13 y14 y15) (laws_FnExactDifferentPixels.j3 (k + 1) y0 y1 y2 y3 y4 y5 y6 y7 y8 y9 y10 y11 y12 y13 y14 y15)) ∧ (∀ y0 y1 y2 y3 y4 y5 y6 y7, LeO (laws_FnExactDifferentPixels.j4 k y0 y1 y2 y3 y4 y5 y6 y7) (laws_FnExactDifferentPixels.j4 (k + 1) y0 y1 y2 y3 y4 y5 y6 y7))
 | 0 => ⟨fun _ _ _ _ _ _ _ _ _ r h => by simp [laws_FnExactDifferentPixels.j0] at h, fun _ _ _ _ _ _ _ _ r h => by simp [laws_FnExactDifferentPixels.j1] at h, fun _ _ _ _ _ _ _ _ _ _ _ _ _ _ _ _ _ r h => by simp [laws_FnExactDifferentPixels.j2] at h, fun _ _ _ _ _ _ _ _ _ _ _ _ _ _ _ _ r h => by simp [laws_FnExactDifferentPixels.j3] at h, fun _ _ _ _ _ _ _ _ r h => by simp [laws_FnExactDifferentPixels.j4] at h⟩
 | k + 1 => by
  obtain ⟨ih0, ih1, ih2, ih3, ih4⟩ := laws_FnExactDifferentPixels.mono_l k
  refine ⟨?_, ?_, ?_, ?_, ?_⟩
  ·intro y0 y1 y2 y3 y4 y5 y6 y7 y8
   unfold laws_FnExactDifferentPixels.j0
   repeat' first
   | (with_reducible exact ih0 _ _ _ _ _ _ _ _ _)
   | (with_reducible exact ih1 _ _ _ _ _ _ _ _)
   | (with_reducible exact ih2 _ _ _ _ _ _ _ _ _ _ _ _ _ _ _ _ _)
   | (with_reducible exact ih3 _ _ _ _ _ _ _ _ _ _ _ _ _ _ _ _)
   | (with_reducible exact ih4 _ _ _ _ _ _ _ _)
   | (with_reducible exact impl_DifferentPixels.mono _ _ _ _ _ _ _ _ _)
   | (with_reducible exact laws_eqBitmap.mono _ _ _ _ _ _ _ _ _)
   | (with_reducible exact laws_szBitmap.mono _ _ _ _ _ _)
   | (with_reducible exact laws_toBitmap.mono _ _ _ _ _)
   | (with_reducible exact spec_DifferentPixels.mono _ _ _ _ _ _ _ _ _)
   | (with_reducible exact LeO.refl _)
   | (with_reducible exact LeO.none _)
   | (with_reducible refine LeO.ite ?_ ?_)
   | (with_reducible refine LeO.bind ?_ (fun _ => ?_))
   | exact ih0 _ _ _ _ _ _ _ _ _
   | exact ih1 _ _ _ _ _ _ _ _
   | exact ih2 _ _ _ _ _ _ _ _ _ _ _ _ _ _ _ _ _
   | exact ih3 _ _ _ _ _ _ _ _ _ _ _ _ _ _ _ _
   | exact ih4 _ _ _ _ _ _ _ _
   | exact impl_DifferentPixels.mono _ _ _ _ _ _ _ _ _
   | exact laws_eqBitmap.mono _ _ _ _ _ _ _ _ _
   | exact laws_szBitmap.mono _ _ _ _ _ _
   | exact laws_toBitmap.mono _ _ _ _ _
   | exact spec_DifferentPixels.mono _ _ _ _ _ _ _ _ _
   | exact LeO.none _
   | refine LeO.ite ?_ ?_
   | refine LeO.bind ?_ (fun _ => ?_)
  ·intro y0 y1 y2 y3 y4 y5 y6 y7
   unfold laws_FnExactDifferentPixels.j1
   repeat' first
   | (with_reducible exact ih0 _ _ _ _ _ _ _ _ _)
   | (with_reducible exact ih1 _ _ _ _ _ _ _ _)
   | (with_reducible exact ih2 _ _ _ _ _ _ _ _ _ _ _ _ _ _ _ _ _)
   | (with_reducible exact ih3 _ _ _ _ _ _ _ _ _ _ _ _ _ _ _ _)
   | (with_reducible exact ih4 _ _ _ _ _ _ _ _)
   | (with_reducible exact impl_DifferentPixels.mono _ _ _ _ _ _ _ _ _)
   | (with_reducible exact laws_eqBitmap.mono _ _ _ _ _ _ _ _ _)
   | (with_reducible exact laws_szBitmap.mono _ _ _ _ _ _)
   | (with_reducible exact laws_toBitmap.mono _ _ _ _ _)
   | (with_reducible exact spec_DifferentPixels.mono _ _ _ _ _ _ _ _ _)
   | (with_reducible exact LeO.refl _)
   | (with_reducible exact LeO.none _)
   | (with_reducible refine LeO.ite ?_ ?_)
   | (with_reducible refine LeO.bind ?_ (fun _ => ?_))
   | exact ih0 _ _ _ _ _ _ _ _ _
   | exact ih1 _ _ _ _ _ _ _ _
   | exact ih2 _ _ _ _ _ _ _ _ _ _ _ _ _ _ _ _ _
   | exact ih3 _ _ _ _ _ _ _ _ _ _ _ _ _ _ _ _
   | exact ih4 _ _ _ _ _ _ _ _
   | exact impl_DifferentPixels.mono _ _ _ _ _ _ _ _ _
   | exact laws_eqBitmap.mono _ _ _ _ _ _ _ _ _
   | exact laws_szBitmap.mono _ _ _ _ _ _
   | exact laws_toBitmap.mono _ _ _ _ _
   | exact spec_DifferentPixels.mono _ _ _ _ _ _ _ _ _
   | exact LeO.none _
   | refine LeO.ite ?_ ?_
   | refine LeO.bind ?_ (fun _ => ?_)
  ·intro y0 y1 y2 y3 y4 y5 y6 y7 y8 y9 y10 y11 y12 y13 y14 y15 y16
   unfold laws_FnExactDifferentPixels.j2
   repeat' first
   | (with_reducible exact ih0 _ _ _ _ _ _ _ _ _)
   | (with_reducible exact ih1 _ _ _ _ _ _ _ _)
   | (with_reducible exact ih2 _ _ _ _ _ _ _ _ _ _ _ _ _ _ _ _ _)
   | (with_reducible exact ih3 _ _ _ _ _ _ _ _ _ _ _ _ _ _ _ _)
   | (with_reducible exact ih4 _ _ _ _ _ _ _ _)
   | (with_reducible exact impl_DifferentPixels.mono _ _ _ _ _ _ _ _ _)
   | (with_reducible exact laws_eqBitmap.mono _ _ _ _ _ _ _ _ _)
   | (with_reducible exact laws_szBitmap.mono _ _ _ _ _ _)
   | (with_reducible exact laws_toBitmap.mono _ _ _ _ _)
   | (with_reducible exact spec_DifferentPixels.mono _ _ _ _ _ _ _ _ _)
   | (with_reducible exact LeO.refl _)
   | (with_reducible exact LeO.none _)
   | (with_reducible refine LeO.ite ?_ ?_)
   | (with_reducible refine LeO.bind ?_ (fun _ => ?_))
   | exact ih0 _ _ _ _ _ _ _ _ _
   | exact ih1 _ _ _ _ _ _ _ _
   | exact ih2 _ _ _ _ _ _ _ _ _ _ _ _ _ _ _ _ _
   | exact ih3 _ _ _ _ _ _ _ _ _ _ _ _ _ _ _ _
   | exact ih4 _ _ _ _ _ _ _ _
   | exact impl_DifferentPixels.mono _ _ _ _ _ _ _ _ _
   | exact laws_eqBitmap.mono _ _ _ _ _ _ _ _ _
   | exact laws_szBitmap.mono _ _ _ _ _ _
   | exact laws_toBitmap.mono _ _ _ _ _
   | exact spec_DifferentPixels.mono _ _ _ _ _ _ _ _ _
   | exact LeO.none _
   | refine LeO.ite ?_ ?_
   | refine LeO.bind ?_ (fun _ => ?_)
  ·intro y0 y1 y2 y3 y4 y5 y6 y7 y8 y9 y10 y11 y12 y13 y14 y15
   unfold laws_FnExactDifferentPixels.j3
   repeat' first
   | (with_reducible exact ih0 _ _ _ _ _ _ _ _ _)
   | (with_reducible exact ih1 _ _ _ _ _ _ _ _)
   | (with_reducible exact ih2 _ _ _ _ _ _ _ _ _ _ _ _ _ _ _ _ _)
   | (with_reducible exact ih3 _ _ _ _ _ _ _ _ _ _ _ _ _ _ _ _)
   | (with_reducible exact ih4 _ _ _ _ _ _ _ _)
   | (with_reducible exact impl_DifferentPixels.mono _ _ _ _ _ _ _ _ _)
   | (with_reducible exact laws_eqBitmap.mono _ _ _ _ _ _ _ _ _)
   | (with_reducible exact laws_szBitmap.mono _ _ _ _ _ _)
   | (with_reducible exact laws_toBitmap.mono _ _ _ _ _)
   | (with_reducible exact spec_DifferentPixels.mono _ _ _ _ _ _ _ _ _)
   | (with_reducible exact LeO.refl _)
   | (with_reducible exact LeO.none _)
   | (with_reducible refine LeO.ite ?_ ?_)
   | (with_reducible refine LeO.bind ?_ (fun _ => ?_))
   | exact ih0 _ _ _ _ _ _ _ _ _
   | exact ih1 _ _ _ _ _ _ _ _
   | exact ih2 _ _ _ _ _ _ _ _ _ _ _ _ _ _ _ _ _
   | exact ih3 _ _ _ _ _ _ _ _ _ _ _ _ _ _ _ _
   | exact ih4 _ _ _ _ _ _ _ _
   | exact impl_DifferentPixels.mono _ _ _ _ _ _ _ _ _
   | exact laws_eqBitmap.mono _ _ _ _ _ _ _ _ _
   | exact laws_szBitmap.mono _ _ _ _ _ _
   | exact laws_toBitmap.mono _ _ _ _ _
   | exact spec_DifferentPixels.mono _ _ _ _ _ _ _ _ _
   | exact LeO.none _
   | refine LeO.ite ?_ ?_
   | refine LeO.bind ?_ (fun _ => ?_)
  ·intro y0 y1 y2 y3 y4 y5 y6 y7
   unfold laws_FnExactDifferentPixels.j4
   repeat' first
   | (with_reducible exact ih0 _ _ _ _ _ _ _ _ _)
   | (with_reducible exact ih1 _ _ _ _ _ _ _ _)
   | (with_reducible exact ih2 _ _ _ _ _ _ _ _ _ _ _ _ _ _ _ _ _)
   | (with_reducible exact ih3 _ _ _ _ _ _ _ _ _ _ _ _ _ _ _ _)
   | (with_reducible exact ih4 _ _ _ _ _ _ _ _)
   | (with_reducible exact impl_DifferentPixels.mono _ _ _ _ _ _ _ _ _)
   | (with_reducible exact laws_eqBitmap.mono _ _ _ _ _ _ _ _ _)
   | (with_reducible exact laws_szBitmap.mono _ _ _ _ _ _)
   | (with_reducible exact laws_toBitmap.mono _ _ _ _ _)
   | (with_reducible exact spec_DifferentPixels.mono _ _ _ _ _ _ _ _ _)
   | (with_reducible exact LeO.refl _)
   | (with_reducible exact LeO.none _)
   | (with_reducible refine LeO.ite ?_ ?_)
   | (with_reducible refine LeO.bind ?_ (fun _ => ?_))
   | exact ih0 _ _ _ _ _ _ _ _ _
   | exact ih1 _ _ _ _ _ _ _ _
   | exact ih2 _ _ _ _ _ _ _ _ _ _ _ _ _ _ _ _ _
   | exact ih3 _ _ _ _ _ _ _ _ _ _ _ _ _ _ _ _
   | exact ih4 _ _ _ _ _ _ _ _
   | exact impl_DifferentPixels.mono _ _ _ _ _ _ _ _ _
   | exact laws_eqBitmap.mono _ _ _ _ _ _ _ _ _
   | exact laws_szBitmap.mono _ _ _ _ _ _
   | exact laws_toBitmap.mono _ _ _ _ _
   | exact spec_DifferentPixels.mono _ _ _ _ _ _ _ _ _
   | exact LeO.none _
   | refine LeO.ite ?_ ?_
   | refine LeO.bind ?_ (fun _ => ?_)
theorem laws_FnExactDifferentPixels.mono : ∀ a0 a1 a2 a3 a4 a5 a6 a7 k, LeO (laws_FnExactDifferentPixels.f k a0 a1 a2 a3 a4 a5 a6 a7) (laws_FnExactDifferentPixels.f (k + 1) a0 a1 a2 a3 a4 a5 a6 a7) := by
 intro a0 a1 a2 a3 a4 a5 a6 a7 k
 obtain ⟨ih0, ih1, ih2, ih3, ih4⟩ := laws_FnExactDifferentPixels.mono_l k
 unfold laws_FnExactDifferentPixels.f
 repeat' first
   | (with_reducible exact ih0 _ _ _ _ _ _ _ _ _)
   | (with_reducible exact ih1 _ _ _ _ _ _ _ _)
   | (with_reducible exact ih2 _ _ _ _ _ _ _ _ _ _ _ _ _ _ _ _ _)
   | (with_reducible exact ih3 _ _ _ _ _ _ _ _ _ _ _ _ _ _ _ _)
   | (with_reducible exact ih4 _ _ _ _ _ _ _ _)
   | (with_reducible exact impl_DifferentPixels.mono _ _ _ _ _ _ _ _ _)
   | (with_reducible exact laws_eqBitmap.mono _ _ _ _ _ _ _ _ _)
   | (with_reducible exact laws_szBitmap.mono _ _ _ _ _ _)
   | (with_reducible exact laws_toBitmap.mono _ _ _ _ _)
   | (with_reducible exact spec_DifferentPixels.mono _ _ _ _ _ _ _ _ _)
   | (with_reducible exact LeO.refl _)
   | (with_reducible exact LeO.none _)
   | (with_reducible refine LeO.ite ?_ ?_)
   | (with_reducible refine LeO.bind ?_ (fun _ => ?_))
   | exact ih0 _ _ _ _ _ _ _ _ _
   | exact ih1 _ _ _ _ _ _ _ _
   | exact ih2 _ _ _ _ _ _ _ _ _ _ _ _ _ _ _ _ _
   | exact ih3 _ _ _ _ _ _ _ _ _ _ _ _ _ _ _ _
   | exact ih4 _ _ _ _ _ _ _ _
   | exact impl_DifferentPixels.mono _ _ _ _ _ _ _ _ _
   | exact laws_eqBitmap.mono _ _ _ _ _ _ _ _ _
   | exact laws_szBitmap.mono _ _ _ _ _ _
   | exact laws_toBitmap.mono _ _ _ _ _
   | exact spec_DifferentPixels.mono _ _ _ _ _ _ _ _ _
   | exact LeO.none _
   | refine LeO.ite ?_ ?_
   | refine LeO.bind ?_ (fun _ => ?_)
def laws_FnExactDifferentPixels.T8 : Bool × List (List Nat × List Nat) := (true, [([], []), ([0], [0]), ([], []), ([2, 1], [2]), ([1, 3, 3], [1, 3]), ([4], [4]), ([5], [5]), ([5], [5]), ([6, 4, 0, 1, 2, 3, 4, 5, 6], [6]), ([7, 8, 0, 1, 2, 3, 4, 5, 6, 7, 8], [7])])
def laws_FnExactDifferentPixels.B8 : List Nat := [0, 1, 0, 7, 15, 31, 63, 63, 127, 511]
theorem laws_FnExactDifferentPixels.tab8 : rtab .any (opsOf Tryd.f5 8) = laws_FnExactDifferentPixels.T8 := by kernel_rfl
theorem laws_FnExactDifferentPixels.bits8 : waitsOk laws_FnExactDifferentPixels.T8.2 laws_FnExactDifferentPixels.B8 = true := by kernel_rfl
set_option maxHeartbeats 8000000 in
set_option maxRecDepth 100000 in
theorem laws_FnExactDifferentPixels.calls (k : Nat) (a0_0 : Int) (a0_1 : Int) (a0_2 : Int) (A0_3 : Option Addr) (c0_3 : Nat) (l0_3 : List ByteArray) (a1_0 : Int) (a1_1 : Int) (a1_2 : Int) (A1_3 : Option Addr) (c1_3 : Nat) (l1_3 : List ByteArray) (r : Bool) (w : World) (hr0_3 : Kd.C Kd.string w A0_3 l0_3.length l0_3) (hc0_3 : l0_3.length ≤ c0_3) (hr1_3 : Kd.C Kd.string w A1_3 l1_3.length l1_3) (hc1_3 : l1_3.length ≤ c1_3) (h : laws_FnExactDifferentPixels.f k a0_0 a0_1 a0_2 l0_3 a1_0 a1_1 a1_2 l1_3 = some r) :
  Calls Tryd.prog 5 #[.agg #[.int .i64 a0_0, .int .i64 a0_1, .int .i64 a0_2, .slice A0_3 l0_3.length c0_3], .agg #[.int .i64 a1_0, .int .i64 a1_1, .int .i64 a1_2, .slice A1_3 l1_3.length c1_3]] w fun e w' => e = .returned (.bool r) ∧ Below w.heap.size w w' := by
 have hu24 := Tryd.underlying24
 have hu27 := Tryd.underlying27
 have HR0_3 := aM hr0_3
 have HC0_3 := aM hc0_3
 clear hr0_3 hc0_3
 have HR1_3 := aM hr1_3
 have HC1_3 := aM hc1_3
 clear hr1_3 hc1_3
 have HB := aM (Below.refl w.heap.size w)
 have H : ((laws_szBitmap.f k a0_0 a0_1 a0_2 l0_3 1048576).bind fun t188 => (if t188 < 0 then (some true) else (laws_FnExactDifferentPixels.j0 k t188 a0_0 a0_1 a0_2 l0_3 a1_0 a1_1 a1_2 l1_3))) = some r := h
 clear h
 replace H := Option.bind_eq_some_iff.mp H
 obtain ⟨t188, A30, H⟩ := H
 replace H : (if t188 < 0 then (some true) else (laws_FnExactDifferentPixels.j0 k t188 a0_0 a0_1 a0_2 l0_3 a1_0 a1_1 a1_2 l1_3)) = some r := H
 have A3 := aM A30
 clear A30
 have HC4 := aM H
 clear H
 go_enter Tryd.func5, Tryd.ntmps5
 go_upto_if 16 with (first | ((with_reducible refine gate_dst (N := 2) rfl ?_); refine box_event ?hg (N := 2) ?hd (cs := #[.int .i64 a0_0, .int .i64 a0_1, .int .i64 a0_2, .slice A0_3 l0_3.length c0_3]) (t := 24) ?hr ?_; (case hd => rfl); (case hg => rfl); (case hr => first | (go_simp; done) | (go_simp; rfl)); intro gb186 hg w5 hbox hb; have n0_ := aM (below_step bQ hb); have n1_ := aM (hbox); have n2_ := aM ((by rw [hg]; exact (below_size bQ) : w.heap.size ≤ gb186)); have n3_ := aM ((by rw [hg]; exact (below_size bQ) : w.heap.size ≤ gb186)); clear HB; have HB := n0_; have BK186 := n1_; have GW186 := n2_; have GE186 := n3_; clear n0_ n1_ n2_ n3_; clear hb hbox hg) | ((with_reducible refine gate_dst (N := 3) rfl ?_); refine box_event ?hg (N := 3) ?hd (cs := #[.int .i64 a1_0, .int .i64 a1_1, .int .i64 a1_2, .slice A1_3 l1_3.length c1_3]) (t := 24) ?hr ?_; (case hd => rfl); (case hg => rfl); (case hr => first | (go_simp; done) | (go_simp; rfl)); intro gb187 hg w6 hbox hb; have n0_ := aM (blk_below (g := gb186) (o := .cells #[.int .i64 a0_0, .int .i64 a0_1, .int .i64 a0_2, .slice A0_3 l0_3.length c0_3] 24 (0, 0)) (by (with_reducible repeat (first | refine blk_drewN ?_ _ | refine blk_drew ?_ | refine blk_alloc ?_ _)); exact BK186.out) hb); have n1_ := aM (below_step (by repeat (first | (with_reducible first | exact HB.out | apply bA | apply bN | apply bD | refine below_set ?_ GE186.out) | exact HB.out)) hb); have n2_ := aM (hbox); have n3_ := aM ((by rw [hg]; exact (below_size (by repeat (first | (with_reducible first | exact HB.out | apply bA | apply bN | apply bD | refine below_set ?_ GE186.out) | exact HB.out))) : w.heap.size ≤ gb187)); have n4_ := aM ((by rw [hg]; exact (below_size (by repeat (first | (with_reducible first | exact HB.out | apply bA | apply bN | apply bD | refine below_set ?_ GE186.out) | exact HB.out))) : w.heap.size ≤ gb187)); have n5_ := aM ((by rw [hg]; exact Nat.ne_of_lt (blk_lt (g := gb186) (o := .cells #[.int .i64 a0_0, .int .i64 a0_1, .int .i64 a0_2, .slice A0_3 l0_3.length c0_3] 24 (0, 0)) (by (with_reducible repeat (first | refine blk_drewN ?_ _ | refine blk_drew ?_ | refine blk_alloc ?_ _)); exact BK186.out)) : gb186 ≠ gb187)); have n6_ := aM ((by rw [hg]; exact Nat.ne_of_gt (blk_lt (g := gb186) (o := .cells #[.int .i64 a0_0, .int .i64 a0_1, .int .i64 a0_2, .slice A0_3 l0_3.length c0_3] 24 (0, 0)) (by (with_reducible repeat (first | refine blk_drewN ?_ _ | refine blk_drew ?_ | refine blk_alloc ?_ _)); exact BK186.out)) : gb187 ≠ gb186)); clear BK186; clear HB; have BK186 := n0_; have HB := n1_; have BK187 := n2_; have GW187 := n3_; have GE187 := n4_; have NB186_187 := n5_; have NB187_186 := n6_; clear n0_ n1_ n2_ n3_ n4_ n5_ n6_; clear hb hbox hg; have hnb7 := NB186_187.out; have hnc7 := NB187_186.out; have hcz8_0 : w6.cell? ⟨gb186, 0, none⟩ = some (.int .i64 a0_0) := (blk_cell BK186.out 0).trans rfl; have hcz8_1 : w6.cell? ⟨gb186, 1, none⟩ = some (.int .i64 a0_1) := (blk_cell BK186.out 1).trans rfl; have hcz8_2 : w6.cell? ⟨gb186, 2, none⟩ = some (.int .i64 a0_2) := (blk_cell BK186.out 2).trans rfl; have hcz8_3 : w6.cell? ⟨gb186, 3, none⟩ = some (.slice A0_3 l0_3.length c0_3) := (blk_cell BK186.out 3).trans rfl; have hfz8_0 := blk_frozen BK186.out 0; have hfz8_1 := blk_frozen BK186.out 1; have hfz8_2 := blk_frozen BK186.out 2; have hfz8_3 := blk_frozen BK186.out 3) | ((with_reducible refine gate_callee (f := 9) rfl ?_); refine goesL_ (some 14) rfl rfl Tryd.func9 (by kernel_rfl) rfl #[.agg #[.int .i64 a0_0, .int .i64 a0_1, .int .i64 a0_2, .slice A0_3 l0_3.length c0_3], .int .i64 1048576] rfl gQ ?_; (with_reducible refine (laws_szBitmap.calls k a0_0 a0_1 a0_2 _ _ l0_3 1048576 t188 _ ?side1 ?side2 A3.out).mono ?_); (case side1 => exact cQ HR0_3.out); (case side2 => exact HC0_3.out); rintro e w9 ⟨rfl, hb⟩; refine ⟨_, rfl, ?_⟩; have n0_ := aM (blk_below (g := gb186) (o := .cells #[.int .i64 a0_0, .int .i64 a0_1, .int .i64 a0_2, .slice A0_3 l0_3.length c0_3] 24 (0, 0)) (by (with_reducible repeat (first | refine blk_drewN ?_ _ | refine blk_drew ?_ | refine blk_alloc ?_ _)); exact BK186.out) hb); have n1_ := aM (blk_below (g := gb187) (o := .cells #[.int .i64 a1_0, .int .i64 a1_1, .int .i64 a1_2, .slice A1_3 l1_3.length c1_3] 24 (0, 0)) (by (with_reducible repeat (first | refine blk_drewN ?_ _ | refine blk_drew ?_ | refine blk_alloc ?_ _)); exact BK187.out) hb); have n2_ := aM (below_step (by repeat (first | (with_reducible first | exact HB.out | apply bA | apply bN | apply bD | refine below_set ?_ GE186.out | refine below_set ?_ GE187.out) | exact HB.out)) hb); clear BK186; clear BK187; clear HB; have BK186 := n0_; have BK187 := n1_; have HB := n2_; clear n0_ n1_ n2_; (try clear hb); (try clear hb2); (try clear hk); (try clear hi)))
 (try simp only [Act.put, sI, sZ, sS])
 go_cut [] (fun wc => ∃ (kq : Nat), Aside0 (laws_FnExactDifferentPixels.j0 kq t188 a0_0 a0_1 a0_2 l0_3 a1_0 a1_1 a1_2 l1_3 = some r) ∧ Aside0 (kq ≤ k) ∧ Aside0 (wc.heap[gb186]? = some (.cells #[.int .i64 a0_0, .int .i64 a0_1, .int .i64 a0_2, (.slice A0_3 l0_3.length c0_3)] 24 (0, 0))) ∧ Aside0 (wc.heap[gb187]? = some (.cells #[.int .i64 a1_0, .int .i64 a1_1, .int .i64 a1_2, (.slice A1_3 l1_3.length c1_3)] 24 (0, 0))) ∧ Aside0 (Below w.heap.size w wc))
 case first =>
  have H := HC4.out
  clear HC4
  by_cases c10 : t188 < 0
  ·rw [if_pos c10] at H
   have c10b0 : decide (t188 < 0) = true := decide_eq_true c10
   clear c10
   (first | rw [c10b0] | (simp only [i64_w, i32_w]; rw [c10b0]) | rw [c10b1] | rw [c10b2] | rw [c10b3] | rw [c10b4] | skip)
   obtain rfl := Option.some.inj H
   go_wp2
   go_ret
   exact ⟨eQ, by repeat (first | (with_reducible first | exact HB.out | apply bA | apply bN | apply bD | refine below_set ?_ GE186.out | refine below_set ?_ GE187.out) | exact HB.out)⟩
  ·rw [if_neg c10] at H
   have c10b0 : decide (t188 < 0) = false := decide_eq_false c10
   clear c10
   (first | rw [c10b0] | (simp only [i64_w, i32_w]; rw [c10b0]) | rw [c10b1] | rw [c10b2] | rw [c10b3] | rw [c10b4] | skip)
   have H' := aM H
   clear H
   go_wp2
   go_meet
   case rel => exact ⟨_, H', ⟨by first | omega | exact Nat.le_refl _⟩, ⟨by (with_reducible repeat (first | refine blk_drewN ?_ _ | refine blk_drew ?_ | refine blk_alloc ?_ _)); exact BK186.out⟩, ⟨by (with_reducible repeat (first | refine blk_drewN ?_ _ | refine blk_drew ?_ | refine blk_alloc ?_ _)); exact BK187.out⟩, ⟨by repeat (first | (with_reducible first | exact HB.out | apply bA | apply bN | apply bD | refine below_set ?_ GE186.out | refine below_set ?_ GE187.out) | exact HB.out)⟩⟩
 case rest =>
  clear HC4
  try clear c1
  try clear p2
  try clear c5
  try clear c7
  try clear c9
  try clear c10
  try clear c10b0
  try clear c10b1
  try clear c10b2
  try clear hcz8_0
  try clear hcz8_1
  try clear hcz8_2
  try clear hcz8_3
  try clear hfz8_0
  try clear hfz8_1
  try clear hfz8_2
  try clear hfz8_3
  obtain ⟨kq, HA, HJ3, BK186, BK187, HB⟩ := hcut
  cases kq with
  | zero => exact absurd HA.out (by simp [laws_FnExactDifferentPixels.j0])
  | succ kj3 =>
   have H := HA.out
   clear HA
   simp only [laws_FnExactDifferentPixels.j0] at H
   replace H := Option.bind_eq_some_iff.mp H
   obtain ⟨t189, A110, H⟩ := H
   replace H : (if t189 < 0 then (some true) else (laws_FnExactDifferentPixels.j1 kj3 a0_0 a0_1 a0_2 l0_3 a1_0 a1_1 a1_2 l1_3)) = some r := H
   have A11 := aM A110
   clear A110
   have HC12 := aM H
   clear H
   have hnb13 := NB187_186.out
   have hnc13 := NB186_187.out
   have hcz14_0 : wc.cell? ⟨gb187, 0, none⟩ = some (.int .i64 a1_0) := (blk_cell BK187.out 0).trans rfl
   have hcz14_1 : wc.cell? ⟨gb187, 1, none⟩ = some (.int .i64 a1_1) := (blk_cell BK187.out 1).trans rfl
   have hcz14_2 : wc.cell? ⟨gb187, 2, none⟩ = some (.int .i64 a1_2) := (blk_cell BK187.out 2).trans rfl
   have hcz14_3 : wc.cell? ⟨gb187, 3, none⟩ = some (.slice A1_3 l1_3.length c1_3) := (blk_cell BK187.out 3).trans rfl
   have hfz14_0 := blk_frozen BK187.out 0
   have hfz14_1 := blk_frozen BK187.out 1
   have hfz14_2 := blk_frozen BK187.out 2
   have hfz14_3 := blk_frozen BK187.out 3
   go_upto_if 21 with (first | ((with_reducible refine gate_callee (f := 9) rfl ?_); refine goesL_ (some 19) rfl rfl Tryd.func9 (by kernel_rfl) rfl #[.agg #[.int .i64 a1_0, .int .i64 a1_1, .int .i64 a1_2, .slice A1_3 l1_3.length c1_3], .int .i64 t188] rfl gQ ?_; (with_reducible refine (laws_szBitmap.calls kj3 a1_0 a1_1 a1_2 _ _ l1_3 t188 t189 _ ?side1 ?side2 A11.out).mono ?_); (case side1 => exact cQ HR1_3.out); (case side2 => exact HC1_3.out); rintro e w15 ⟨rfl, hb⟩; refine ⟨_, rfl, ?_⟩; have n0_ := aM (blk_below (g := gb186) (o := .cells #[.int .i64 a0_0, .int .i64 a0_1, .int .i64 a0_2, .slice A0_3 l0_3.length c0_3] 24 (0, 0)) (by (with_reducible repeat (first | refine blk_drewN ?_ _ | refine blk_drew ?_ | refine blk_alloc ?_ _)); exact BK186.out) hb); have n1_ := aM (blk_below (g := gb187) (o := .cells #[.int .i64 a1_0, .int .i64 a1_1, .int .i64 a1_2, .slice A1_3 l1_3.length c1_3] 24 (0, 0)) (by (with_reducible repeat (first | refine blk_drewN ?_ _ | refine blk_drew ?_ | refine blk_alloc ?_ _)); exact BK187.out) hb); have n2_ := aM (below_step (by repeat (first | (with_reducible first | exact HB.out | apply bA | apply bN | apply bD | refine below_set ?_ GE186.out | refine below_set ?_ GE187.out) | exact HB.out)) hb); clear BK186; clear BK187; clear HB; have BK186 := n0_; have BK187 := n1_; have HB := n2_; clear n0_ n1_ n2_; (try clear hb); (try clear hb2); (try clear hk); (try clear hi)))
   (try simp only [Act.put, sI, sZ, sS])
   go_cut [] (fun wc => ∃ (kq : Nat), Aside0 (laws_FnExactDifferentPixels.j1 kq a0_0 a0_1 a0_2 l0_3 a1_0 a1_1 a1_2 l1_3 = some r) ∧ Aside0 (kq ≤ kj3) ∧ Aside0 (wc.heap[gb186]? = some (.cells #[.int .i64 a0_0, .int .i64 a0_1, .int .i64 a0_2, (.slice A0_3 l0_3.length c0_3)] 24 (0, 0))) ∧ Aside0 (wc.heap[gb187]? = some (.cells #[.int .i64 a1_0, .int .i64 a1_1, .int .i64 a1_2, (.slice A1_3 l1_3.length c1_3)] 24 (0, 0))) ∧ Aside0 (Below w.heap.size w wc))
   case first =>
    have H := HC12.out
    clear HC12
    by_cases c16 : t189 < 0
    ·rw [if_pos c16] at H
     have c16b0 : decide (t189 < 0) = true := decide_eq_true c16
     clear c16
     (first | rw [c16b0] | (simp only [i64_w, i32_w]; rw [c16b0]) | rw [c16b1] | rw [c16b2] | rw [c16b3] | rw [c16b4] | skip)
     obtain rfl := Option.some.inj H
     go_wp2
     go_ret
     exact ⟨eQ, by repeat (first | (with_reducible first | exact HB.out | apply bA | apply bN | apply bD | refine below_set ?_ GE186.out | refine below_set ?_ GE187.out) | exact HB.out)⟩
    ·rw [if_neg c16] at H
     have c16b0 : decide (t189 < 0) = false := decide_eq_false c16
     clear c16
     (first | rw [c16b0] | (simp only [i64_w, i32_w]; rw [c16b0]) | rw [c16b1] | rw [c16b2] | rw [c16b3] | rw [c16b4] | skip)
     have H' := aM H
     clear H
     go_wp2
     go_meet
     case rel => exact ⟨_, H', ⟨by have := HJ3.out; first | omega | exact Nat.le_refl _⟩, ⟨by (with_reducible repeat (first | refine blk_drewN ?_ _ | refine blk_drew ?_ | refine blk_alloc ?_ _)); exact BK186.out⟩, ⟨by (with_reducible repeat (first | refine blk_drewN ?_ _ | refine blk_drew ?_ | refine blk_alloc ?_ _)); exact BK187.out⟩, ⟨by repeat (first | (with_reducible first | exact HB.out | apply bA | apply bN | apply bD | refine below_set ?_ GE186.out | refine below_set ?_ GE187.out) | exact HB.out)⟩⟩
   case rest =>
    clear HC12
    try clear c1
    try clear p2
    try clear c5
    try clear c7
    try clear c9
    try clear c10
    try clear c10b0
    try clear c10b1
    try clear c10b2
    try clear c13
    try clear c16
    try clear c16b0
    try clear c16b1
    try clear c16b2
    try clear hcz14_0
    try clear hcz14_1
    try clear hcz14_2
    try clear hcz14_3
    try clear hcz8_0
    try clear hcz8_1
    try clear hcz8_2
    try clear hcz8_3
    try clear hfz14_0
    try clear hfz14_1
    try clear hfz14_2
    try clear hfz14_3
    try clear hfz8_0
    try clear hfz8_1
    try clear hfz8_2
    try clear hfz8_3
    try clear p2
    obtain ⟨kq, HA, HJ11, BK186, BK187, HB⟩ := hcut
    cases kq with
    | zero => exact absurd HA.out (by simp [laws_FnExactDifferentPixels.j1])
    | succ kj11 =>
     have H := HA.out
     clear HA
     simp only [laws_FnExactDifferentPixels.j1] at H
     replace H := Option.bind_eq_some_iff.mp H
     obtain ⟨⟨t190, t191, t192, t193⟩, A170, H⟩ := H
     replace H : ((laws_toBitmap.f kj11 a1_0 a1_1 a1_2 l1_3).bind fun bt196 => ((spec_DifferentPixels.f kj11 t190 t191 t192 t193 bt196.1 bt196.2.1 bt196.2.2.1 bt196.2.2.2).bind fun bt202 => ((laws_toBitmap.f kj11 a0_0 a0_1 a0_2 l0_3).bind fun bt204 => ((laws_toBitmap.f kj11 a1_0 a1_1 a1_2 l1_3).bind fun bt211 => ((impl_DifferentPixels.f kj11 bt204.1 bt204.2.1 bt204.2.2.1 bt204.2.2.2 bt211.1 bt211.2.1 bt211.2.2.1 bt211.2.2.2).bind fun bt218 => (if bt218.1 = bt202.1 then (laws_FnExactDifferentPixels.j2 kj11 (bt218.2 != bt202.2) a0_0 a0_1 a0_2 l0_3 a1_0 a1_1 a1_2 l1_3 bt204.1 bt204.2.1 bt204.2.2.1 bt204.2.2.2 bt211.1 bt211.2.1 bt211.2.2.1 bt211.2.2.2) else (laws_FnExactDifferentPixels.j2 kj11 true a0_0 a0_1 a0_2 l0_3 a1_0 a1_1 a1_2 l1_3 bt204.1 bt204.2.1 bt204.2.2.1 bt204.2.2.2 bt211.1 bt211.2.1 bt211.2.2.1 bt211.2.2.2))))))) = some r := H
     have A17 := aM A170
     clear A170
     replace H := Option.bind_eq_some_iff.mp H
     obtain ⟨⟨t196, t197, t198, t199⟩, A180, H⟩ := H
     replace H : ((spec_DifferentPixels.f kj11 t190 t191 t192 t193 t196 t197 t198 t199).bind fun bt202 => ((laws_toBitmap.f kj11 a0_0 a0_1 a0_2 l0_3).bind fun bt204 => ((laws_toBitmap.f kj11 a1_0 a1_1 a1_2 l1_3).bind fun bt211 => ((impl_DifferentPixels.f kj11 bt204.1 bt204.2.1 bt204.2.2.1 bt204.2.2.2 bt211.1 bt211.2.1 bt211.2.2.1 bt211.2.2.2).bind fun bt218 => (if bt218.1 = bt202.1 then (laws_FnExactDifferentPixels.j2 kj11 (bt218.2 != bt202.2) a0_0 a0_1 a0_2 l0_3 a1_0 a1_1 a1_2 l1_3 bt204.1 bt204.2.1 bt204.2.2.1 bt204.2.2.2 bt211.1 bt211.2.1 bt211.2.2.1 bt211.2.2.2) else (laws_FnExactDifferentPixels.j2 kj11 true a0_0 a0_1 a0_2 l0_3 a1_0 a1_1 a1_2 l1_3 bt204.1 bt204.2.1 bt204.2.2.1 bt204.2.2.2 bt211.1 bt211.2.1 bt211.2.2.1 bt211.2.2.2)))))) = some r := H
     have A18 := aM A180
     clear A180
     replace H := Option.bind_eq_some_iff.mp H
     obtain ⟨⟨t202, t203⟩, A190, H⟩ := H
     replace H : ((laws_toBitmap.f kj11 a0_0 a0_1 a0_2 l0_3).bind fun bt204 => ((laws_toBitmap.f kj11 a1_0 a1_1 a1_2 l1_3).bind fun bt211 => ((impl_DifferentPixels.f kj11 bt204.1 bt204.2.1 bt204.2.2.1 bt204.2.2.2 bt211.1 bt211.2.1 bt211.2.2.1 bt211.2.2.2).bind fun bt218 => (if bt218.1 = t202 then (laws_FnExactDifferentPixels.j2 kj11 (bt218.2 != t203) a0_0 a0_1 a0_2 l0_3 a1_0 a1_1 a1_2 l1_3 bt204.1 bt204.2.1 bt204.2.2.1 bt204.2.2.2 bt211.1 bt211.2.1 bt211.2.2.1 bt211.2.2.2) else (laws_FnExactDifferentPixels.j2 kj11 true a0_0 a0_1 a0_2 l0_3 a1_0 a1_1 a1_2 l1_3 bt204.1 bt204.2.1 bt204.2.2.1 bt204.2.2.2 bt211.1 bt211.2.1 bt211.2.2.1 bt211.2.2.2))))) = some r := H
     have A19 := aM A190
     clear A190
     replace H := Option.bind_eq_some_iff.mp H
     obtain ⟨⟨t204, t205, t206, t207⟩, A200, H⟩ := H
     replace H : ((laws_toBitmap.f kj11 a1_0 a1_1 a1_2 l1_3).bind fun bt211 => ((impl_DifferentPixels.f kj11 t204 t205 t206 t207 bt211.1 bt211.2.1 bt211.2.2.1 bt211.2.2.2).bind fun bt218 => (if bt218.1 = t202 then (laws_FnExactDifferentPixels.j2 kj11 (bt218.2 != t203) a0_0 a0_1 a0_2 l0_3 a1_0 a1_1 a1_2 l1_3 t204 t205 t206 t207 bt211.1 bt211.2.1 bt211.2.2.1 bt211.2.2.2) else (laws_FnExactDifferentPixels.j2 kj11 true a0_0 a0_1 a0_2 l0_3 a1_0 a1_1 a1_2 l1_3 t204 t205 t206 t207 bt211.1 bt211.2.1 bt211.2.2.1 bt211.2.2.2)))) = some r := H
     have A20 := aM A200
     clear A200
     replace H := Option.bind_eq_some_iff.mp H
     obtain ⟨⟨t211, t212, t213, t214⟩, A210, H⟩ := H
     replace H : ((impl_DifferentPixels.f kj11 t204 t205 t206 t207 t211 t212 t213 t214).bind fun bt218 => (if bt218.1 = t202 then (laws_FnExactDifferentPixels.j2 kj11 (bt218.2 != t203) a0_0 a0_1 a0_2 l0_3 a1_0 a1_1 a1_2 l1_3 t204 t205 t206 t207 t211 t212 t213 t214) else (laws_FnExactDifferentPixels.j2 kj11 true a0_0 a0_1 a0_2 l0_3 a1_0 a1_1 a1_2 l1_3 t204 t205 t206 t207 t211 t212 t213 t214))) = some r := H
     have A21 := aM A210
     clear A210
     replace H := Option.bind_eq_some_iff.mp H
     obtain ⟨⟨t218, t219⟩, A220, H⟩ := H
     replace H : (if t218 = t202 then (laws_FnExactDifferentPixels.j2 kj11 (t219 != t203) a0_0 a0_1 a0_2 l0_3 a1_0 a1_1 a1_2 l1_3 t204 t205 t206 t207 t211 t212 t213 t214) else (laws_FnExactDifferentPixels.j2 kj11 true a0_0 a0_1 a0_2 l0_3 a1_0 a1_1 a1_2 l1_3 t204 t205 t206 t207 t211 t212 t213 t214)) = some r := H
     have A22 := aM A220
     clear A220
     have HC23 := aM H
     clear H
     try go_wp2
     have n0_ := aM (blk_drew BK186.out)
     have n1_ := aM (blk_drew BK187.out)
     have n2_ := aM (below_drew1 HB.out)
     clear BK186
     clear BK187
     clear HB
     have BK186 := n0_
     have BK187 := n1_
     have HB := n2_
     clear n0_ n1_ n2_
     refine start_ (n := 10) (S := fun w' => w'.cell? ⟨gb186, 0, none⟩ = some (.int .i64 a0_0) ∧ w'.cell? ⟨gb186, 1, none⟩ = some (.int .i64 a0_1) ∧ w'.cell? ⟨gb186, 2, none⟩ = some (.int .i64 a0_2) ∧ w'.cell? ⟨gb186, 3, none⟩ = some (.slice A0_3 l0_3.length c0_3) ∧ w'.cell? ⟨gb187, 0, none⟩ = some (.int .i64 a1_0) ∧ w'.cell? ⟨gb187, 1, none⟩ = some (.int .i64 a1_1) ∧ w'.cell? ⟨gb187, 2, none⟩ = some (.int .i64 a1_2) ∧ w'.cell? ⟨gb187, 3, none⟩ = some (.slice A1_3 l1_3.length c1_3)) (ds := []) mklaws_F769_0 (by kernel_rfl) rfl rfl ⟨(blk_cell BK186.out 0).trans rfl, (blk_cell BK186.out 1).trans rfl, (blk_cell BK186.out 2).trans rfl, (blk_cell BK186.out 3).trans rfl, (blk_cell BK187.out 0).trans rfl, (blk_cell BK187.out 1).trans rfl, (blk_cell BK187.out 2).trans rfl, (blk_cell BK187.out 3).trans rfl⟩ (fun hHeld => ?_); refine with_tabW laws_FnExactDifferentPixels.tab8 laws_FnExactDifferentPixels.bits8 (fun HT_ HW_ => ?_)
     generalize wc.drew = w24 at BK186 BK187 HB hHeld ⊢
     refine tQ (i := 0) (N := some 23) mklaws_F769_1 rfl hHeld (Or.inl ⟨by rfl, by rintro w' ⟨s0, s1, s2, s3, s4, s5, s6, s7⟩; go_simp; with_reducible rfl⟩) ?_
     refine tQ (i := 2) (N := some 25) mklaws_F769_2 rfl hHeld (Or.inl ⟨by rfl, by rintro w' ⟨s0, s1, s2, s3, s4, s5, s6, s7⟩; go_simp; with_reducible rfl⟩) ?_
     refine one_ (i := 1) (N := some 24) mklaws_F769_3 rfl rfl (one_of HT_.out (by kernel_rfl)) (by decide) (fun K hK => ?_)
     refine goes_ Tryd.func11 (by kernel_rfl) rfl #[.agg #[.int .i64 a0_0, .int .i64 a0_1, .int .i64 a0_2, .slice A0_3 l0_3.length c0_3]] (by rfl) rfl rfl gQ ?_
     with_reducible refine (laws_toBitmap.calls kj11 a0_0 a0_1 a0_2 _ _ l0_3 t190 t191 t192 t193 _ ?side1 ?side2 A17.out).mono ?_
     (case side1 => exact cQ HR0_3.out)
     (case side2 => exact HC0_3.out)
     rintro e w25 ⟨v194, rfl, ho0, hb⟩
     refine ⟨_, rfl, ?_⟩
     have n0_ := aM (Kd.R_lower ho0 (below_size (by repeat (first | (with_reducible first | exact HB.out | apply bA | apply bN | apply bD | refine below_set ?_ GE186.out | refine below_set ?_ GE187.out) | exact HB.out))))
     have n1_ := aM (blk_below (g := gb186) (o := .cells #[.int .i64 a0_0, .int .i64 a0_1, .int .i64 a0_2, .slice A0_3 l0_3.length c0_3] 24 (0, 0)) (by (with_reducible repeat (first | refine blk_drewN ?_ _ | refine blk_drew ?_ | refine blk_alloc ?_ _)); exact BK186.out) hb)
     have n2_ := aM (blk_below (g := gb187) (o := .cells #[.int .i64 a1_0, .int .i64 a1_1, .int .i64 a1_2, .slice A1_3 l1_3.length c1_3] 24 (0, 0)) (by (with_reducible repeat (first | refine blk_drewN ?_ _ | refine blk_drew ?_ | refine blk_alloc ?_ _)); exact BK187.out) hb)
     have n3_ := aM (below_step (by repeat (first | (with_reducible first | exact HB.out | apply bA | apply bN | apply bD | refine below_set ?_ GE186.out | refine below_set ?_ GE187.out) | exact HB.out)) hb)
     clear BK186
     clear BK187
     clear HB
     have HO195 := n0_
     have BK186 := n1_
     have BK187 := n2_
     have HB := n3_
     clear n0_ n1_ n2_ n3_
     (try clear hb)
     (try clear hb2)
     (try clear hk)
     (try clear hi)
     (try clear ho0)
     refine hK.out _ _ ⟨(blk_cell BK186.out 0).trans rfl, (blk_cell BK186.out 1).trans rfl, (blk_cell BK186.out 2).trans rfl, (blk_cell BK186.out 3).trans rfl, (blk_cell BK187.out 0).trans rfl, (blk_cell BK187.out 1).trans rfl, (blk_cell BK187.out 2).trans rfl, (blk_cell BK187.out 3).trans rfl⟩ (fun hHeld => ?_)
     clear hK K
     refine norm_ (a' := ?_) ?_ ?_
     rotate_left
     ·show Act.put _ (some 24) _ = _
      simp only [Act.put, sI, sZ, sS, i64_w, i32_w]
      rfl
     refine one_ (i := 3) (N := some 26) mklaws_F769_4 rfl rfl (one_of HT_.out (by kernel_rfl)) (by decide) (fun K hK => ?_)
     refine goes_ Tryd.func11 (by kernel_rfl) rfl #[.agg #[.int .i64 a1_0, .int .i64 a1_1, .int .i64 a1_2, .slice A1_3 l1_3.length c1_3]] (by rfl) rfl rfl gQ ?_
     with_reducible refine (laws_toBitmap.calls kj11 a1_0 a1_1 a1_2 _ _ l1_3 t196 t197 t198 t199 _ ?side1 ?side2 A18.out).mono ?_
     (case side1 => exact cQ HR1_3.out)
     (case side2 => exact HC1_3.out)
     rintro e w26 ⟨v200, rfl, ho0, hb⟩
     refine ⟨_, rfl, ?_⟩
     have n0_ := aM (Kd.R_elder' (by (with_reducible repeat (first | apply rA | apply rN | apply rD)); exact HO195.out) (Kd.R_base ho0) hb)
     have n1_ := aM (Kd.R_lower (Kd.R_new' ho0 (Kd.R_lt (by (with_reducible repeat (first | apply rA | apply rN | apply rD)); exact HO195.out))) (below_size (by repeat (first | (with_reducible first | exact HB.out | apply bA | apply bN | apply bD | refine below_set ?_ GE186.out | refine below_set ?_ GE187.out) | exact HB.out))))
     have n2_ := aM (blk_below (g := gb186) (o := .cells #[.int .i64 a0_0, .int .i64 a0_1, .int .i64 a0_2, .slice A0_3 l0_3.length c0_3] 24 (0, 0)) (by (with_reducible repeat (first | refine blk_drewN ?_ _ | refine blk_drew ?_ | refine blk_alloc ?_ _)); exact BK186.out) hb)
     have n3_ := aM (blk_below (g := gb187) (o := .cells #[.int .i64 a1_0, .int .i64 a1_1, .int .i64 a1_2, .slice A1_3 l1_3.length c1_3] 24 (0, 0)) (by (with_reducible repeat (first | refine blk_drewN ?_ _ | refine blk_drew ?_ | refine blk_alloc ?_ _)); exact BK187.out) hb)
     have n4_ := aM (below_step (by repeat (first | (with_reducible first | exact HB.out | apply bA | apply bN | apply bD | refine below_set ?_ GE186.out | refine below_set ?_ GE187.out) | exact HB.out)) hb)
     clear HO195
     clear BK186
     clear BK187
     clear HB
     have HO195 := n0_
     have HO201 := n1_
     have BK186 := n2_
     have BK187 := n3_
     have HB := n4_
     clear n0_ n1_ n2_ n3_ n4_
     (try clear hb)
     (try clear hb2)
     (try clear hk)
     (try clear hi)
     (try clear ho0)
     obtain ⟨Ao27, co27, eo27⟩ := Kd.R_slice HO195.out
     (first | subst eo27 | (injection eo27 with f1_ f2_ f3_; have f4_ := f1_.symm; have f5_ := f3_.symm; clear f1_ f2_ f3_; subst f4_; subst f5_))
     obtain ⟨Ao28, co28, eo28⟩ := Kd.R_slice HO201.out
     (first | subst eo28 | (injection eo28 with f1_ f2_ f3_; have f4_ := f1_.symm; have f5_ := f3_.symm; clear f1_ f2_ f3_; subst f4_; subst f5_))
     refine hK.out _ _ ⟨(blk_cell BK186.out 0).trans rfl, (blk_cell BK186.out 1).trans rfl, (blk_cell BK186.out 2).trans rfl, (blk_cell BK186.out 3).trans rfl, (blk_cell BK187.out 0).trans rfl, (blk_cell BK187.out 1).trans rfl, (blk_cell BK187.out 2).trans rfl, (blk_cell BK187.out 3).trans rfl⟩ (fun hHeld => ?_)
     clear hK K
     refine norm_ (a' := ?_) ?_ ?_
     rotate_left
     ·show Act.put _ (some 26) _ = _
      simp only [Act.put, sI, sZ, sS, i64_w, i32_w]
      rfl
     refine one_ (i := 4) (N := some 27) mklaws_F769_5 rfl rfl (one_of HT_.out (by kernel_rfl)) (by decide) (fun K hK => ?_)
     refine goes_ Tryd.func16 (by kernel_rfl) rfl #[.agg #[.int .i64 t190, .int .i64 t191, .int .i64 t192, .slice Ao27 t193.length co27], .agg #[.int .i64 t196, .int .i64 t197, .int .i64 t198, .slice Ao28 t199.length co28]] (by rfl) rfl rfl gQ ?_
     with_reducible refine (spec_DifferentPixels.calls kj11 t190 t191 t192 _ _ t193 t196 t197 t198 _ _ t199 t202 t203 _ ?side1 ?side2 ?side3 ?side4 A19.out).mono ?_
     (case side1 => repeat (first | exact (Kd.R_reads' HO195.out).2.2 | (with_reducible first | refine cA ?_ _ | refine cN ?_ _ | refine cD ?_)))
     (case side2 => exact (Kd.R_reads' HO195.out).2.1)
     (case side3 => repeat (first | exact (Kd.R_reads' HO201.out).2.2 | (with_reducible first | refine cA ?_ _ | refine cN ?_ _ | refine cD ?_)))
     (case side4 => exact (Kd.R_reads' HO201.out).2.1)
     rintro e w29 ⟨rfl, hb⟩
     refine ⟨_, rfl, ?_⟩
     have n0_ := aM (Kd.R_below (by (with_reducible repeat (first | apply rA | apply rN | apply rD)); exact HO195.out) hb)
     have n1_ := aM (Kd.R_below (by (with_reducible repeat (first | apply rA | apply rN | apply rD)); exact HO201.out) hb)
     have n2_ := aM (blk_below (g := gb186) (o := .cells #[.int .i64 a0_0, .int .i64 a0_1, .int .i64 a0_2, .slice A0_3 l0_3.length c0_3] 24 (0, 0)) (by (with_reducible repeat (first | refine blk_drewN ?_ _ | refine blk_drew ?_ | refine blk_alloc ?_ _)); exact BK186.out) hb)
     have n3_ := aM (blk_below (g := gb187) (o := .cells #[.int .i64 a1_0, .int .i64 a1_1, .int .i64 a1_2, .slice A1_3 l1_3.length c1_3] 24 (0, 0)) (by (with_reducible repeat (first | refine blk_drewN ?_ _ | refine blk_drew ?_ | refine blk_alloc ?_ _)); exact BK187.out) hb)
     have n4_ := aM (below_step (by repeat (first | (with_reducible first | exact HB.out | apply bA | apply bN | apply bD | refine below_set ?_ GE186.out | refine below_set ?_ GE187.out) | exact HB.out)) hb)
     clear HO195
     clear HO201
     clear BK186
     clear BK187
     clear HB
     have HO195 := n0_
     have HO201 := n1_
     have BK186 := n2_
     have BK187 := n3_
     have HB := n4_
     clear n0_ n1_ n2_ n3_ n4_
     (try clear hb)
     (try clear hb2)
     (try clear hk)
     (try clear hi)
     refine hK.out _ _ ⟨(blk_cell BK186.out 0).trans rfl, (blk_cell BK186.out 1).trans rfl, (blk_cell BK186.out 2).trans rfl, (blk_cell BK186.out 3).trans rfl, (blk_cell BK187.out 0).trans rfl, (blk_cell BK187.out 1).trans rfl, (blk_cell BK187.out 2).trans rfl, (blk_cell BK187.out 3).trans rfl⟩ (fun hHeld => ?_)
     clear hK K
     refine norm_ (a' := ?_) ?_ ?_
     rotate_left
     ·show Act.put _ (some 27) _ = _
      simp only [Act.put, sI, sZ, sS, i64_w, i32_w]
      rfl
     refine pQ (i := 5) (N := some 22) mklaws_F769_6 ?_
     refine pQ (i := 6) (N := some 28) mklaws_F769_7 ?_
     refine pQ (i := 7) (N := some 29) mklaws_F769_8 ?_
     refine pQ (i := 8) (N := some 6) mklaws_F769_9 ?_
     refine pQ (i := 9) (N := some 7) mklaws_F769_10 ?_
     refine done_ (done_of HT_.out (by kernel_rfl)) ?_
     have hnb30 := NB186_187.out
     have hnc30 := NB187_186.out
     have hcz31_0 : w29.cell? ⟨gb186, 0, none⟩ = some (.int .i64 a0_0) := (blk_cell BK186.out 0).trans rfl
     have hcz31_1 : w29.cell? ⟨gb186, 1, none⟩ = some (.int .i64 a0_1) := (blk_cell BK186.out 1).trans rfl
     have hcz31_2 : w29.cell? ⟨gb186, 2, none⟩ = some (.int .i64 a0_2) := (blk_cell BK186.out 2).trans rfl
     have hcz31_3 : w29.cell? ⟨gb186, 3, none⟩ = some (.slice A0_3 l0_3.length c0_3) := (blk_cell BK186.out 3).trans rfl
     have hfz31_0 := blk_frozen BK186.out 0
     have hfz31_1 := blk_frozen BK186.out 1
     have hfz31_2 := blk_frozen BK186.out 2
     have hfz31_3 := blk_frozen BK186.out 3
     go_upto_region 12 with (first | ((with_reducible refine gate_callee (f := 11) rfl ?_); refine goesL_ (some 31) rfl rfl Tryd.func11 (by kernel_rfl) rfl #[.agg #[.int .i64 a0_0, .int .i64 a0_1, .int .i64 a0_2, .slice A0_3 l0_3.length c0_3]] rfl gQ ?_; (with_reducible refine (laws_toBitmap.calls kj11 a0_0 a0_1 a0_2 _ _ l0_3 t204 t205 t206 t207 _ ?side1 ?side2 A20.out).mono ?_); (case side1 => exact cQ HR0_3.out); (case side2 => exact HC0_3.out); rintro e w32 ⟨v208, rfl, ho0, hb⟩; refine ⟨_, rfl, ?_⟩; have n0_ := aM (Kd.R_elder' (by (with_reducible repeat (first | apply rA | apply rN | apply rD)); exact HO195.out) (Kd.R_base ho0) hb); have n1_ := aM (Kd.R_elder' (by (with_reducible repeat (first | apply rA | apply rN | apply rD)); exact HO201.out) (Kd.R_base ho0) hb); have n2_ := aM (Kd.R_lower (Kd.R_new' (Kd.R_new' ho0 (Kd.R_lt (by (with_reducible repeat (first | apply rA | apply rN | apply rD)); exact HO195.out))) (Kd.R_lt (by (with_reducible repeat (first | apply rA | apply rN | apply rD)); exact HO201.out))) (below_size (by repeat (first | (with_reducible first | exact HB.out | apply bA | apply bN | apply bD | refine below_set ?_ GE186.out | refine below_set ?_ GE187.out) | exact HB.out)))); have n3_ := aM (blk_below (g := gb186) (o := .cells #[.int .i64 a0_0, .int .i64 a0_1, .int .i64 a0_2, .slice A0_3 l0_3.length c0_3] 24 (0, 0)) (by (with_reducible repeat (first | refine blk_drewN ?_ _ | refine blk_drew ?_ | refine blk_alloc ?_ _)); exact BK186.out) hb); have n4_ := aM (blk_below (g := gb187) (o := .cells #[.int .i64 a1_0, .int .i64 a1_1, .int .i64 a1_2, .slice A1_3 l1_3.length c1_3] 24 (0, 0)) (by (with_reducible repeat (first | refine blk_drewN ?_ _ | refine blk_drew ?_ | refine blk_alloc ?_ _)); exact BK187.out) hb); have n5_ := aM (below_step (by repeat (first | (with_reducible first | exact HB.out | apply bA | apply bN | apply bD | refine below_set ?_ GE186.out | refine below_set ?_ GE187.out) | exact HB.out)) hb); clear HO195; clear HO201; clear BK186; clear BK187; clear HB; have HO195 := n0_; have HO201 := n1_; have HO209 := n2_; have BK186 := n3_; have BK187 := n4_; have HB := n5_; clear n0_ n1_ n2_ n3_ n4_ n5_; (try clear hb); (try clear hb2); (try clear hk); (try clear hi); (try clear ho0)) | ((with_reducible refine gate_dst (N := 8) rfl ?_); refine box_event ?hg (N := 8) ?hd (cs := #[.int .i64 0, .int .i64 0, .int .i64 0, .slice none 0 0]) (t := 27) ?hr ?_; (case hd => rfl); (case hg => rfl); (case hr => first | (go_simp; done) | (go_simp; rfl)); intro gb210 hg w33 hbox hb; have n0_ := aM (Kd.R_below (by (with_reducible repeat (first | apply rA | apply rN | apply rD)); exact HO195.out) hb); have n1_ := aM (Kd.R_below (by (with_reducible repeat (first | apply rA | apply rN | apply rD)); exact HO201.out) hb); have n2_ := aM (Kd.R_below (by (with_reducible repeat (first | apply rA | apply rN | apply rD)); exact HO209.out) hb); have n3_ := aM (blk_below (g := gb186) (o := .cells #[.int .i64 a0_0, .int .i64 a0_1, .int .i64 a0_2, .slice A0_3 l0_3.length c0_3] 24 (0, 0)) (by (with_reducible repeat (first | refine blk_drewN ?_ _ | refine blk_drew ?_ | refine blk_alloc ?_ _)); exact BK186.out) hb); have n4_ := aM (blk_below (g := gb187) (o := .cells #[.int .i64 a1_0, .int .i64 a1_1, .int .i64 a1_2, .slice A1_3 l1_3.length c1_3] 24 (0, 0)) (by (with_reducible repeat (first | refine blk_drewN ?_ _ | refine blk_drew ?_ | refine blk_alloc ?_ _)); exact BK187.out) hb); have n5_ := aM (below_step (by repeat (first | (with_reducible first | exact HB.out | apply bA | apply bN | apply bD | refine below_set ?_ GE186.out | refine below_set ?_ GE187.out) | exact HB.out)) hb); have n6_ := aM (hbox); have n7_ := aM ((by rw [hg]; exact (below_size (by repeat (first | (with_reducible first | exact HB.out | apply bA | apply bN | apply bD | refine below_set ?_ GE186.out | refine below_set ?_ GE187.out) | exact HB.out))) : w.heap.size ≤ gb210)); have n8_ := aM ((by rw [hg]; exact (below_size (by repeat (first | (with_reducible first | exact HB.out | apply bA | apply bN | apply bD | refine below_set ?_ GE186.out | refine below_set ?_ GE187.out) | exact HB.out))) : w.heap.size ≤ gb210)); have n9_ := aM ((by rw [hg]; exact Nat.ne_of_lt (blk_lt (g := gb186) (o := .cells #[.int .i64 a0_0, .int .i64 a0_1, .int .i64 a0_2, .slice A0_3 l0_3.length c0_3] 24 (0, 0)) (by (with_reducible repeat (first | refine blk_drewN ?_ _ | refine blk_drew ?_ | refine blk_alloc ?_ _)); exact BK186.out)) : gb186 ≠ gb210)); have n10_ := aM ((by rw [hg]; exact Nat.ne_of_gt (blk_lt (g := gb186) (o := .cells #[.int .i64 a0_0, .int .i64 a0_1, .int .i64 a0_2, .slice A0_3 l0_3.length c0_3] 24 (0, 0)) (by (with_reducible repeat (first | refine blk_drewN ?_ _ | refine blk_drew ?_ | refine blk_alloc ?_ _)); exact BK186.out)) : gb210 ≠ gb186)); have n11_ := aM ((by rw [hg]; exact Nat.ne_of_lt (blk_lt (g := gb187) (o := .cells #[.int .i64 a1_0, .int .i64 a1_1, .int .i64 a1_2, .slice A1_3 l1_3.length c1_3] 24 (0, 0)) (by (with_reducible repeat (first | refine blk_drewN ?_ _ | refine blk_drew ?_ | refine blk_alloc ?_ _)); exact BK187.out)) : gb187 ≠ gb210)); have n12_ := aM ((by rw [hg]; exact Nat.ne_of_gt (blk_lt (g := gb187) (o := .cells #[.int .i64 a1_0, .int .i64 a1_1, .int .i64 a1_2, .slice A1_3 l1_3.length c1_3] 24 (0, 0)) (by (with_reducible repeat (first | refine blk_drewN ?_ _ | refine blk_drew ?_ | refine blk_alloc ?_ _)); exact BK187.out)) : gb210 ≠ gb187)); clear HO195; clear HO201; clear HO209; clear BK186; clear BK187; clear HB; have HO195 := n0_; have HO201 := n1_; have HO209 := n2_; have BK186 := n3_; have BK187 := n4_; have HB := n5_; have BK210 := n6_; have GW210 := n7_; have GE210 := n8_; have NB186_210 := n9_; have NB210_186 := n10_; have NB187_210 := n11_; have NB210_187 := n12_; clear n0_ n1_ n2_ n3_ n4_ n5_ n6_ n7_ n8_ n9_ n10_ n11_ n12_; clear hb hbox hg; have hnb34 := NB210_186.out; have hnc34 := NB186_210.out; have hnb35 := NB210_187.out; have hnc35 := NB187_210.out; have hcz36_0 : w33.cell? ⟨gb210, 0, none⟩ = some (.int .i64 0) := (blk_cell BK210.out 0).trans rfl; have hcz36_1 : w33.cell? ⟨gb210, 1, none⟩ = some (.int .i64 0) := (blk_cell BK210.out 1).trans rfl; have hcz36_2 : w33.cell? ⟨gb210, 2, none⟩ = some (.int .i64 0) := (blk_cell BK210.out 2).trans rfl; have hcz36_3 : w33.cell? ⟨gb210, 3, none⟩ = some (.slice none 0 0) := (blk_cell BK210.out 3).trans rfl; have hfz36_0 := blk_frozen BK210.out 0; have hfz36_1 := blk_frozen BK210.out 1; have hfz36_2 := blk_frozen BK210.out 2; have hfz36_3 := blk_frozen BK210.out 3; obtain ⟨Ao37, co37, eo37⟩ := Kd.R_slice HO209.out; subst eo37; have hcz38_0 : w33.cell? ⟨gb187, 0, none⟩ = some (.int .i64 a1_0) := (blk_cell BK187.out 0).trans rfl; have hcz38_1 : w33.cell? ⟨gb187, 1, none⟩ = some (.int .i64 a1_1) := (blk_cell BK187.out 1).trans rfl; have hcz38_2 : w33.cell? ⟨gb187, 2, none⟩ = some (.int .i64 a1_2) := (blk_cell BK187.out 2).trans rfl; have hcz38_3 : w33.cell? ⟨gb187, 3, none⟩ = some (.slice A1_3 l1_3.length c1_3) := (blk_cell BK187.out 3).trans rfl; have hfz38_0 := blk_frozen BK187.out 0; have hfz38_1 := blk_frozen BK187.out 1; have hfz38_2 := blk_frozen BK187.out 2; have hfz38_3 := blk_frozen BK187.out 3) | ((with_reducible refine gate_callee (f := 11) rfl ?_); refine goesL_ (some 33) rfl rfl Tryd.func11 (by kernel_rfl) rfl #[.agg #[.int .i64 a1_0, .int .i64 a1_1, .int .i64 a1_2, .slice A1_3 l1_3.length c1_3]] rfl gQ ?_; (with_reducible refine (laws_toBitmap.calls kj11 a1_0 a1_1 a1_2 _ _ l1_3 t211 t212 t213 t214 _ ?side1 ?side2 A21.out).mono ?_); (case side1 => exact Kd.C_below HR1_3.out (by repeat (first | (with_reducible first | exact HB.out | apply bA | apply bN | apply bD | refine below_set ?_ GE186.out | refine below_set ?_ GE187.out | refine below_set ?_ GE210.out) | exact HB.out))); (case side2 => exact HC1_3.out); rintro e w39 ⟨v215, rfl, ho0, hb⟩; refine ⟨_, rfl, ?_⟩; have n0_ := aM (Kd.R_elder' (by (with_reducible repeat (first | apply rA | apply rN | apply rD)); exact (Kd.R_mono (Kd.R_far (p := ⟨gb210, 3, none⟩) (Kd.R_far (p := ⟨gb210, 2, none⟩) (Kd.R_far (p := ⟨gb210, 1, none⟩) (Kd.R_far (p := ⟨gb210, 0, none⟩) (Kd.R_types HO195.out BK210.out (by decide)) h2_ (.int .i64 t204)) h2_ (.int .i64 t205)) h2_ (.int .i64 t206)) h2_ (.slice Ao37 t207.length co37)) h1_)) (Kd.R_base ho0) hb); have n1_ := aM (Kd.R_elder' (by (with_reducible repeat (first | apply rA | apply rN | apply rD)); exact (Kd.R_mono (Kd.R_far (p := ⟨gb210, 3, none⟩) (Kd.R_far (p := ⟨gb210, 2, none⟩) (Kd.R_far (p := ⟨gb210, 1, none⟩) (Kd.R_far (p := ⟨gb210, 0, none⟩) (Kd.R_types HO201.out BK210.out (by decide)) h2_ (.int .i64 t204)) h2_ (.int .i64 t205)) h2_ (.int .i64 t206)) h2_ (.slice Ao37 t207.length co37)) h1_)) (Kd.R_base ho0) hb); have n2_ := aM (Kd.R_elder' (by (with_reducible repeat (first | apply rA | apply rN | apply rD)); exact (Kd.R_mono (Kd.R_far (p := ⟨gb210, 3, none⟩) (Kd.R_far (p := ⟨gb210, 2, none⟩) (Kd.R_far (p := ⟨gb210, 1, none⟩) (Kd.R_far (p := ⟨gb210, 0, none⟩) (Kd.R_types HO209.out BK210.out (by decide)) h2_ (.int .i64 t204)) h2_ (.int .i64 t205)) h2_ (.int .i64 t206)) h2_ (.slice Ao37 t207.length co37)) h1_)) (Kd.R_base ho0) hb); have n3_ := aM (Kd.R_lower (Kd.R_new' (Kd.R_new' (Kd.R_new' ho0 (Kd.R_lt (by (with_reducible repeat (first | apply rA | apply rN | apply rD)); exact (Kd.R_mono (Kd.R_far (p := ⟨gb210, 3, none⟩) (Kd.R_far (p := ⟨gb210, 2, none⟩) (Kd.R_far (p := ⟨gb210, 1, none⟩) (Kd.R_far (p := ⟨gb210, 0, none⟩) (Kd.R_types HO195.out BK210.out (by decide)) h2_ (.int .i64 t204)) h2_ (.int .i64 t205)) h2_ (.int .i64 t206)) h2_ (.slice Ao37 t207.length co37)) h1_)))) (Kd.R_lt (by (with_reducible repeat (first | apply rA | apply rN | apply rD)); exact (Kd.R_mono (Kd.R_far (p := ⟨gb210, 3, none⟩) (Kd.R_far (p := ⟨gb210, 2, none⟩) (Kd.R_far (p := ⟨gb210, 1, none⟩) (Kd.R_far (p := ⟨gb210, 0, none⟩) (Kd.R_types HO201.out BK210.out (by decide)) h2_ (.int .i64 t204)) h2_ (.int .i64 t205)) h2_ (.int .i64 t206)) h2_ (.slice Ao37 t207.length co37)) h1_)))) (Kd.R_lt (by (with_reducible repeat (first | apply rA | apply rN | apply rD)); exact (Kd.R_mono (Kd.R_far (p := ⟨gb210, 3, none⟩) (Kd.R_far (p := ⟨gb210, 2, none⟩) (Kd.R_far (p := ⟨gb210, 1, none⟩) (Kd.R_far (p := ⟨gb210, 0, none⟩) (Kd.R_types HO209.out BK210.out (by decide)) h2_ (.int .i64 t204)) h2_ (.int .i64 t205)) h2_ (.int .i64 t206)) h2_ (.slice Ao37 t207.length co37)) h1_)))) (below_size (by repeat (first | (with_reducible first | exact HB.out | apply bA | apply bN | apply bD | refine below_set ?_ GE186.out | refine below_set ?_ GE187.out | refine below_set ?_ GE210.out) | exact HB.out)))); have n4_ := aM (blk_below (g := gb186) (o := .cells #[.int .i64 a0_0, .int .i64 a0_1, .int .i64 a0_2, .slice A0_3 l0_3.length c0_3] 24 (0, 0)) (by (with_reducible repeat (first | refine blk_drewN ?_ _ | refine blk_drew ?_ | refine blk_alloc ?_ _)); refine blk_far ?_ NB186_210.out _; (with_reducible repeat (first | refine blk_drewN ?_ _ | refine blk_drew ?_ | refine blk_alloc ?_ _)); refine blk_far ?_ NB186_210.out _; (with_reducible repeat (first | refine blk_drewN ?_ _ | refine blk_drew ?_ | refine blk_alloc ?_ _)); refine blk_far ?_ NB186_210.out _; (with_reducible repeat (first | refine blk_drewN ?_ _ | refine blk_drew ?_ | refine blk_alloc ?_ _)); refine blk_far ?_ NB186_210.out _; (with_reducible repeat (first | refine blk_drewN ?_ _ | refine blk_drew ?_ | refine blk_alloc ?_ _)); exact BK186.out) hb); have n5_ := aM (blk_below (g := gb187) (o := .cells #[.int .i64 a1_0, .int .i64 a1_1, .int .i64 a1_2, .slice A1_3 l1_3.length c1_3] 24 (0, 0)) (by (with_reducible repeat (first | refine blk_drewN ?_ _ | refine blk_drew ?_ | refine blk_alloc ?_ _)); refine blk_far ?_ NB187_210.out _; (with_reducible repeat (first | refine blk_drewN ?_ _ | refine blk_drew ?_ | refine blk_alloc ?_ _)); refine blk_far ?_ NB187_210.out _; (with_reducible repeat (first | refine blk_drewN ?_ _ | refine blk_drew ?_ | refine blk_alloc ?_ _)); refine blk_far ?_ NB187_210.out _; (with_reducible repeat (first | refine blk_drewN ?_ _ | refine blk_drew ?_ | refine blk_alloc ?_ _)); refine blk_far ?_ NB187_210.out _; (with_reducible repeat (first | refine blk_drewN ?_ _ | refine blk_drew ?_ | refine blk_alloc ?_ _)); exact BK187.out) hb); have n6_ := aM (blk_below (g := gb210) (o := .cells #[.int .i64 t204, .int .i64 t205, .int .i64 t206, .slice Ao37 t207.length co37] 27 (0, 0)) (by (with_reducible repeat (first | refine blk_drewN ?_ _ | refine blk_drew ?_ | refine blk_alloc ?_ _)); refine blk_put (cs := #[.int .i64 t204, .int .i64 t205, .int .i64 t206, .slice none 0 0]) ?_ 3 _ rfl; (with_reducible repeat (first | refine blk_drewN ?_ _ | refine blk_drew ?_ | refine blk_alloc ?_ _)); refine blk_put (cs := #[.int .i64 t204, .int .i64 t205, .int .i64 0, .slice none 0 0]) ?_ 2 _ rfl; (with_reducible repeat (first | refine blk_drewN ?_ _ | refine blk_drew ?_ | refine blk_alloc ?_ _)); refine blk_put (cs := #[.int .i64 t204, .int .i64 0, .int .i64 0, .slice none 0 0]) ?_ 1 _ rfl; (with_reducible repeat (first | refine blk_drewN ?_ _ | refine blk_drew ?_ | refine blk_alloc ?_ _)); refine blk_put (cs := #[.int .i64 0, .int .i64 0, .int .i64 0, .slice none 0 0]) ?_ 0 _ rfl; (with_reducible repeat (first | refine blk_drewN ?_ _ | refine blk_drew ?_ | refine blk_alloc ?_ _)); exact BK210.out) hb); have n7_ := aM (below_step (by repeat (first | (with_reducible first | exact HB.out | apply bA | apply bN | apply bD | refine below_set ?_ GE186.out | refine below_set ?_ GE187.out | refine below_set ?_ GE210.out) | exact HB.out)) hb); clear HO195; clear HO201; clear HO209; clear BK186; clear BK187; clear BK210; clear HB; have HO195 := n0_; have HO201 := n1_; have HO209 := n2_; have HO216 := n3_; have BK186 := n4_; have BK187 := n5_; have BK210 := n6_; have HB := n7_; clear n0_ n1_ n2_ n3_ n4_ n5_ n6_ n7_; (try clear hb); (try clear hb2); (try clear hk); (try clear hi); (try clear ho0)) | ((with_reducible refine gate_dst (N := 9) rfl ?_); refine box_event ?hg (N := 9) ?hd (cs := #[.int .i64 0, .int .i64 0, .int .i64 0, .slice none 0 0]) (t := 27) ?hr ?_; (case hd => rfl); (case hg => rfl); (case hr => first | (go_simp; done) | (go_simp; rfl)); intro gb217 hg w40 hbox hb; have n0_ := aM (Kd.R_below (by (with_reducible repeat (first | apply rA | apply rN | apply rD)); exact HO195.out) hb); have n1_ := aM (Kd.R_below (by (with_reducible repeat (first | apply rA | apply rN | apply rD)); exact HO201.out) hb); have n2_ := aM (Kd.R_below (by (with_reducible repeat (first | apply rA | apply rN | apply rD)); exact HO209.out) hb); have n3_ := aM (Kd.R_below (by (with_reducible repeat (first | apply rA | apply rN | apply rD)); exact HO216.out) hb); have n4_ := aM (blk_below (g := gb186) (o := .cells #[.int .i64 a0_0, .int .i64 a0_1, .int .i64 a0_2, .slice A0_3 l0_3.length c0_3] 24 (0, 0)) (by (with_reducible repeat (first | refine blk_drewN ?_ _ | refine blk_drew ?_ | refine blk_alloc ?_ _)); exact BK186.out) hb); have n5_ := aM (blk_below (g := gb187) (o := .cells #[.int .i64 a1_0, .int .i64 a1_1, .int .i64 a1_2, .slice A1_3 l1_3.length c1_3] 24 (0, 0)) (by (with_reducible repeat (first | refine blk_drewN ?_ _ | refine blk_drew ?_ | refine blk_alloc ?_ _)); exact BK187.out) hb); have n6_ := aM (blk_below (g := gb210) (o := .cells #[.int .i64 t204, .int .i64 t205, .int .i64 t206, .slice Ao37 t207.length co37] 27 (0, 0)) (by (with_reducible repeat (first | refine blk_drewN ?_ _ | refine blk_drew ?_ | refine blk_alloc ?_ _)); exact BK210.out) hb); have n7_ := aM (below_step (by repeat (first | (with_reducible first | exact HB.out | apply bA | apply bN | apply bD | refine below_set ?_ GE186.out | refine below_set ?_ GE187.out | refine below_set ?_ GE210.out) | exact HB.out)) hb); have n8_ := aM (hbox); have n9_ := aM ((by rw [hg]; exact (below_size (by repeat (first | (with_reducible first | exact HB.out | apply bA | apply bN | apply bD | refine below_set ?_ GE186.out | refine below_set ?_ GE187.out | refine below_set ?_ GE210.out) | exact HB.out))) : w.heap.size ≤ gb217)); have n10_ := aM ((by rw [hg]; exact (below_size (by repeat (first | (with_reducible first | exact HB.out | apply bA | apply bN | apply bD | refine below_set ?_ GE186.out | refine below_set ?_ GE187.out | refine below_set ?_ GE210.out) | exact HB.out))) : w.heap.size ≤ gb217)); have n11_ := aM ((by rw [hg]; exact Nat.ne_of_lt (blk_lt (g := gb186) (o := .cells #[.int .i64 a0_0, .int .i64 a0_1, .int .i64 a0_2, .slice A0_3 l0_3.length c0_3] 24 (0, 0)) (by (with_reducible repeat (first | refine blk_drewN ?_ _ | refine blk_drew ?_ | refine blk_alloc ?_ _)); exact BK186.out)) : gb186 ≠ gb217)); have n12_ := aM ((by rw [hg]; exact Nat.ne_of_gt (blk_lt (g := gb186) (o := .cells #[.int .i64 a0_0, .int .i64 a0_1, .int .i64 a0_2, .slice A0_3 l0_3.length c0_3] 24 (0, 0)) (by (with_reducible repeat (first | refine blk_drewN ?_ _ | refine blk_drew ?_ | refine blk_alloc ?_ _)); exact BK186.out)) : gb217 ≠ gb186)); have n13_ := aM ((by rw [hg]; exact Nat.ne_of_lt (blk_lt (g := gb187) (o := .cells #[.int .i64 a1_0, .int .i64 a1_1, .int .i64 a1_2, .slice A1_3 l1_3.length c1_3] 24 (0, 0)) (by (with_reducible repeat (first | refine blk_drewN ?_ _ | refine blk_drew ?_ | refine blk_alloc ?_ _)); exact BK187.out)) : gb187 ≠ gb217)); have n14_ := aM ((by rw [hg]; exact Nat.ne_of_gt (blk_lt (g := gb187) (o := .cells #[.int .i64 a1_0, .int .i64 a1_1, .int .i64 a1_2, .slice A1_3 l1_3.length c1_3] 24 (0, 0)) (by (with_reducible repeat (first | refine blk_drewN ?_ _ | refine blk_drew ?_ | refine blk_alloc ?_ _)); exact BK187.out)) : gb217 ≠ gb187)); have n15_ := aM ((by rw [hg]; exact Nat.ne_of_lt (blk_lt (g := gb210) (o := .cells #[.int .i64 t204, .int .i64 t205, .int .i64 t206, .slice Ao37 t207.length co37] 27 (0, 0)) (by (with_reducible repeat (first | refine blk_drewN ?_ _ | refine blk_drew ?_ | refine blk_alloc ?_ _)); exact BK210.out)) : gb210 ≠ gb217)); have n16_ := aM ((by rw [hg]; exact Nat.ne_of_gt (blk_lt (g := gb210) (o := .cells #[.int .i64 t204, .int .i64 t205, .int .i64 t206, .slice Ao37 t207.length co37] 27 (0, 0)) (by (with_reducible repeat (first | refine blk_drewN ?_ _ | refine blk_drew ?_ | refine blk_alloc ?_ _)); exact BK210.out)) : gb217 ≠ gb210)); clear HO195; clear HO201; clear HO209; clear HO216; clear BK186; clear BK187; clear BK210; clear HB; have HO195 := n0_; have HO201 := n1_; have HO209 := n2_; have HO216 := n3_; have BK186 := n4_; have BK187 := n5_; have BK210 := n6_; have HB := n7_; have BK217 := n8_; have GW217 := n9_; have GE217 := n10_; have NB186_217 := n11_; have NB217_186 := n12_; have NB187_217 := n13_; have NB217_187 := n14_; have NB210_217 := n15_; have NB217_210 := n16_; clear n0_ n1_ n2_ n3_ n4_ n5_ n6_ n7_ n8_ n9_ n10_ n11_ n12_ n13_ n14_ n15_ n16_; clear hb hbox hg; have hnb41 := NB217_186.out; have hnc41 := NB186_217.out; have hnb42 := NB217_187.out; have hnc42 := NB187_217.out; have hnb43 := NB217_210.out; have hnc43 := NB210_217.out; have hcz44_0 : w40.cell? ⟨gb217, 0, none⟩ = some (.int .i64 0) := (blk_cell BK217.out 0).trans rfl; have hcz44_1 : w40.cell? ⟨gb217, 1, none⟩ = some (.int .i64 0) := (blk_cell BK217.out 1).trans rfl; have hcz44_2 : w40.cell? ⟨gb217, 2, none⟩ = some (.int .i64 0) := (blk_cell BK217.out 2).trans rfl; have hcz44_3 : w40.cell? ⟨gb217, 3, none⟩ = some (.slice none 0 0) := (blk_cell BK217.out 3).trans rfl; have hfz44_0 := blk_frozen BK217.out 0; have hfz44_1 := blk_frozen BK217.out 1; have hfz44_2 := blk_frozen BK217.out 2; have hfz44_3 := blk_frozen BK217.out 3; obtain ⟨Ao45, co45, eo45⟩ := Kd.R_slice HO216.out; subst eo45; have hcz46_0 : w40.cell? ⟨gb210, 0, none⟩ = some (.int .i64 t204) := (blk_cell BK210.out 0).trans rfl; have hcz46_1 : w40.cell? ⟨gb210, 1, none⟩ = some (.int .i64 t205) := (blk_cell BK210.out 1).trans rfl; have hcz46_2 : w40.cell? ⟨gb210, 2, none⟩ = some (.int .i64 t206) := (blk_cell BK210.out 2).trans rfl; have hcz46_3 : w40.cell? ⟨gb210, 3, none⟩ = some (.slice Ao37 t207.length co37) := (blk_cell BK210.out 3).trans rfl; have hfz46_0 := blk_frozen BK210.out 0; have hfz46_1 := blk_frozen BK210.out 1; have hfz46_2 := blk_frozen BK210.out 2; have hfz46_3 := blk_frozen BK210.out 3) | ((with_reducible refine gate_callee (f := 17) rfl ?_); refine goesL_ (some 37) rfl rfl Tryd.func17 (by kernel_rfl) rfl #[.agg #[.int .i64 t204, .int .i64 t205, .int .i64 t206, .slice Ao37 t207.length co37], .agg #[.int .i64 t211, .int .i64 t212, .int .i64 t213, .slice Ao45 t214.length co45]] rfl gQ ?_; (with_reducible refine (impl_DifferentPixels.calls kj11 t204 t205 t206 _ _ t207 t211 t212 t213 _ _ t214 t218 t219 _ ?side1 ?side2 ?side3 ?side4 A22.out).mono ?_); (case side1 => refine (Kd.R_reads' (e := 9) (base := w.heap.size) (ok := fun k_ => (((True ∧ some k_ ≠ (.slice Ao27 t193.length co27 : Value).ownBlock) ∧ some k_ ≠ (.slice Ao28 t199.length co28 : Value).ownBlock) ∧ some k_ ≠ (.slice Ao45 t214.length co45 : Value).ownBlock)) (n := t207.length) (c := co37) ?_).2.2; exact (by (with_reducible repeat (first | apply rA | apply rN | apply rD)); exact (Kd.R_mono (Kd.R_far (p := ⟨gb217, 3, none⟩) (Kd.R_far (p := ⟨gb217, 2, none⟩) (Kd.R_far (p := ⟨gb217, 1, none⟩) (Kd.R_far (p := ⟨gb217, 0, none⟩) (Kd.R_types HO209.out BK217.out (by decide)) h2_ (.int .i64 t211)) h2_ (.int .i64 t212)) h2_ (.int .i64 t213)) h2_ (.slice Ao45 t214.length co45)) h1_))); (case side2 => exact (Kd.R_reads' HO209.out).2.1); (case side3 => refine (Kd.R_reads' (e := 9) (base := w.heap.size) (ok := fun k_ => (((True ∧ some k_ ≠ (.slice Ao27 t193.length co27 : Value).ownBlock) ∧ some k_ ≠ (.slice Ao28 t199.length co28 : Value).ownBlock) ∧ some k_ ≠ (.slice Ao37 t207.length co37 : Value).ownBlock)) (n := t214.length) (c := co45) ?_).2.2; exact (by (with_reducible repeat (first | apply rA | apply rN | apply rD)); exact (Kd.R_mono (Kd.R_far (p := ⟨gb217, 3, none⟩) (Kd.R_far (p := ⟨gb217, 2, none⟩) (Kd.R_far (p := ⟨gb217, 1, none⟩) (Kd.R_far (p := ⟨gb217, 0, none⟩) (Kd.R_types HO216.out BK217.out (by decide)) h2_ (.int .i64 t211)) h2_ (.int .i64 t212)) h2_ (.int .i64 t213)) h2_ (.slice Ao45 t214.length co45)) h1_))); (case side4 => exact (Kd.R_reads' HO216.out).2.1); rintro e w47 ⟨rfl, hb⟩; refine ⟨_, rfl, ?_⟩; have n0_ := aM (Kd.R_below (by (with_reducible repeat (first | apply rA | apply rN | apply rD)); exact (Kd.R_mono (Kd.R_far (p := ⟨gb217, 3, none⟩) (Kd.R_far (p := ⟨gb217, 2, none⟩) (Kd.R_far (p := ⟨gb217, 1, none⟩) (Kd.R_far (p := ⟨gb217, 0, none⟩) (Kd.R_types HO195.out BK217.out (by decide)) h2_ (.int .i64 t211)) h2_ (.int .i64 t212)) h2_ (.int .i64 t213)) h2_ (.slice Ao45 t214.length co45)) h1_)) hb); have n1_ := aM (Kd.R_below (by (with_reducible repeat (first | apply rA | apply rN | apply rD)); exact (Kd.R_mono (Kd.R_far (p := ⟨gb217, 3, none⟩) (Kd.R_far (p := ⟨gb217, 2, none⟩) (Kd.R_far (p := ⟨gb217, 1, none⟩) (Kd.R_far (p := ⟨gb217, 0, none⟩) (Kd.R_types HO201.out BK217.out (by decide)) h2_ (.int .i64 t211)) h2_ (.int .i64 t212)) h2_ (.int .i64 t213)) h2_ (.slice Ao45 t214.length co45)) h1_)) hb); have n2_ := aM (Kd.R_below (by (with_reducible repeat (first | apply rA | apply rN | apply rD)); exact (Kd.R_mono (Kd.R_far (p := ⟨gb217, 3, none⟩) (Kd.R_far (p := ⟨gb217, 2, none⟩) (Kd.R_far (p := ⟨gb217, 1, none⟩) (Kd.R_far (p := ⟨gb217, 0, none⟩) (Kd.R_types HO209.out BK217.out (by decide)) h2_ (.int .i64 t211)) h2_ (.int .i64 t212)) h2_ (.int .i64 t213)) h2_ (.slice Ao45 t214.length co45)) h1_)) hb); have n3_ := aM (Kd.R_below (by (with_reducible repeat (first | apply rA | apply rN | apply rD)); exact (Kd.R_mono (Kd.R_far (p := ⟨gb217, 3, none⟩) (Kd.R_far (p := ⟨gb217, 2, none⟩) (Kd.R_far (p := ⟨gb217, 1, none⟩) (Kd.R_far (p := ⟨gb217, 0, none⟩) (Kd.R_types HO216.out BK217.out (by decide)) h2_ (.int .i64 t211)) h2_ (.int .i64 t212)) h2_ (.int .i64 t213)) h2_ (.slice Ao45 t214.length co45)) h1_)) hb); have n4_ := aM (blk_below (g := gb186) (o := .cells #[.int .i64 a0_0, .int .i64 a0_1, .int .i64 a0_2, .slice A0_3 l0_3.length c0_3] 24 (0, 0)) (by (with_reducible repeat (first | refine blk_drewN ?_ _ | refine blk_drew ?_ | refine blk_alloc ?_ _)); refine blk_far ?_ NB186_217.out _; (with_reducible repeat (first | refine blk_drewN ?_ _ | refine blk_drew ?_ | refine blk_alloc ?_ _)); refine blk_far ?_ NB186_217.out _; (with_reducible repeat (first | refine blk_drewN ?_ _ | refine blk_drew ?_ | refine blk_alloc ?_ _)); refine blk_far ?_ NB186_217.out _; (with_reducible repeat (first | refine blk_drewN ?_ _ | refine blk_drew ?_ | refine blk_alloc ?_ _)); refine blk_far ?_ NB186_217.out _; (with_reducible repeat (first | refine blk_drewN ?_ _ | refine blk_drew ?_ | refine blk_alloc ?_ _)); exact BK186.out) hb); have n5_ := aM (blk_below (g := gb187) (o := .cells #[.int .i64 a1_0, .int .i64 a1_1, .int .i64 a1_2, .slice A1_3 l1_3.length c1_3] 24 (0, 0)) (by (with_reducible repeat (first | refine blk_drewN ?_ _ | refine blk_drew ?_ | refine blk_alloc ?_ _)); refine blk_far ?_ NB187_217.out _; (with_reducible repeat (first | refine blk_drewN ?_ _ | refine blk_drew ?_ | refine blk_alloc ?_ _)); refine blk_far ?_ NB187_217.out _; (with_reducible repeat (first | refine blk_drewN ?_ _ | refine blk_drew ?_ | refine blk_alloc ?_ _)); refine blk_far ?_ NB187_217.out _; (with_reducible repeat (first | refine blk_drewN ?_ _ | refine blk_drew ?_ | refine blk_alloc ?_ _)); refine blk_far ?_ NB187_217.out _; (with_reducible repeat (first | refine blk_drewN ?_ _ | refine blk_drew ?_ | refine blk_alloc ?_ _)); exact BK187.out) hb); have n6_ := aM (blk_below (g := gb210) (o := .cells #[.int .i64 t204, .int .i64 t205, .int .i64 t206, .slice Ao37 t207.length co37] 27 (0, 0)) (by (with_reducible repeat (first | refine blk_drewN ?_ _ | refine blk_drew ?_ | refine blk_alloc ?_ _)); refine blk_far ?_ NB210_217.out _; (with_reducible repeat (first | refine blk_drewN ?_ _ | refine blk_drew ?_ | refine blk_alloc ?_ _)); refine blk_far ?_ NB210_217.out _; (with_reducible repeat (first | refine blk_drewN ?_ _ | refine blk_drew ?_ | refine blk_alloc ?_ _)); refine blk_far ?_ NB210_217.out _; (with_reducible repeat (first | refine blk_drewN ?_ _ | refine blk_drew ?_ | refine blk_alloc ?_ _)); refine blk_far ?_ NB210_217.out _; (with_reducible repeat (first | refine blk_drewN ?_ _ | refine blk_drew ?_ | refine blk_alloc ?_ _)); exact BK210.out) hb); have n7_ := aM (blk_below (g := gb217) (o := .cells #[.int .i64 t211, .int .i64 t212, .int .i64 t213, .slice Ao45 t214.length co45] 27 (0, 0)) (by (with_reducible repeat (first | refine blk_drewN ?_ _ | refine blk_drew ?_ | refine blk_alloc ?_ _)); refine blk_put (cs := #[.int .i64 t211, .int .i64 t212, .int .i64 t213, .slice none 0 0]) ?_ 3 _ rfl; (with_reducible repeat (first | refine blk_drewN ?_ _ | refine blk_drew ?_ | refine blk_alloc ?_ _)); refine blk_put (cs := #[.int .i64 t211, .int .i64 t212, .int .i64 0, .slice none 0 0]) ?_ 2 _ rfl; (with_reducible repeat (first | refine blk_drewN ?_ _ | refine blk_drew ?_ | refine blk_alloc ?_ _)); refine blk_put (cs := #[.int .i64 t211, .int .i64 0, .int .i64 0, .slice none 0 0]) ?_ 1 _ rfl; (with_reducible repeat (first | refine blk_drewN ?_ _ | refine blk_drew ?_ | refine blk_alloc ?_ _)); refine blk_put (cs := #[.int .i64 0, .int .i64 0, .int .i64 0, .slice none 0 0]) ?_ 0 _ rfl; (with_reducible repeat (first | refine blk_drewN ?_ _ | refine blk_drew ?_ | refine blk_alloc ?_ _)); exact BK217.out) hb); have n8_ := aM (below_step (by repeat (first | (with_reducible first | exact HB.out | apply bA | apply bN | apply bD | refine below_set ?_ GE186.out | refine below_set ?_ GE187.out | refine below_set ?_ GE210.out | refine below_set ?_ GE217.out) | exact HB.out)) hb); clear HO195; clear HO201; clear HO209; clear HO216; clear BK186; clear BK187; clear BK210; clear BK217; clear HB; have HO195 := n0_; have HO201 := n1_; have HO209 := n2_; have HO216 := n3_; have BK186 := n4_; have BK187 := n5_; have BK210 := n6_; have BK217 := n7_; have HB := n8_; clear n0_ n1_ n2_ n3_ n4_ n5_ n6_ n7_ n8_; (try clear hb); (try clear hb2); (try clear hk); (try clear hi)))
     (try simp only [Act.put, sI, sZ, sS])
     go_cut [47] (fun v47 wc => ∃ (kq : Nat) (x47_22 : Bool), v47 = .bool x47_22 ∧ Aside0 (laws_FnExactDifferentPixels.j2 kq x47_22 a0_0 a0_1 a0_2 l0_3 a1_0 a1_1 a1_2 l1_3 t204 t205 t206 t207 t211 t212 t213 t214 = some r) ∧ Aside0 (kq ≤ kj11) ∧ Aside0 (Kd.R Kd.string 9 wc w.heap.size (fun k_ => some k_ ≠ ((.slice Ao45 t214.length co45) : Value).ownBlock) (.slice Ao37 t207.length co37) t207) ∧ Aside0 (Kd.R Kd.string 9 wc w.heap.size (fun k_ => some k_ ≠ ((.slice Ao37 t207.length co37) : Value).ownBlock) (.slice Ao45 t214.length co45) t214) ∧ Aside0 (wc.heap[gb186]? = some (.cells #[.int .i64 a0_0, .int .i64 a0_1, .int .i64 a0_2, (.slice A0_3 l0_3.length c0_3)] 24 (0, 0))) ∧ Aside0 (wc.heap[gb187]? = some (.cells #[.int .i64 a1_0, .int .i64 a1_1, .int .i64 a1_2, (.slice A1_3 l1_3.length c1_3)] 24 (0, 0))) ∧ Aside0 (wc.heap[gb210]? = some (.cells #[.int .i64 t204, .int .i64 t205, .int .i64 t206, (.slice Ao37 t207.length co37)] 27 (0, 0))) ∧ Aside0 (wc.heap[gb217]? = some (.cells #[.int .i64 t211, .int .i64 t212, .int .i64 t213, (.slice Ao45 t214.length co45)] 27 (0, 0))) ∧ Aside0 (Below w.heap.size w wc))
     case first =>
      have H := HC23.out
      clear HC23
      by_cases c48 : t218 = t202
      ·rw [if_pos c48] at H
       have c48b0 : (t218 == t202) = true := beq_iff_eq.mpr c48
       have c48b1 : (t218 != t202) = false := bne_eq_false_iff_eq.mpr c48
       clear c48
       (first | rw [c48b0] | (simp only [i64_w, i32_w]; rw [c48b0]) | rw [c48b1] | rw [c48b2] | rw [c48b3] | rw [c48b4] | skip)
       have H' := aM H
       clear H
       go_wp2
       go_meet
       case rel => exact ⟨_, ((t219 != t203)), rQ, H', ⟨by have := HJ3.out; have := HJ11.out; first | omega | exact Nat.le_refl _⟩, ⟨by (with_reducible repeat (first | apply rA | apply rN | apply rD)); exact Kd.R_mono HO209.out h2_⟩, ⟨by (with_reducible repeat (first | apply rA | apply rN | apply rD)); exact Kd.R_mono HO216.out h2_⟩, ⟨by (with_reducible repeat (first | refine blk_drewN ?_ _ | refine blk_drew ?_ | refine blk_alloc ?_ _)); exact BK186.out⟩, ⟨by (with_reducible repeat (first | refine blk_drewN ?_ _ | refine blk_drew ?_ | refine blk_alloc ?_ _)); exact BK187.out⟩, ⟨by (with_reducible repeat (first | refine blk_drewN ?_ _ | refine blk_drew ?_ | refine blk_alloc ?_ _)); exact BK210.out⟩, ⟨by (with_reducible repeat (first | refine blk_drewN ?_ _ | refine blk_drew ?_ | refine blk_alloc ?_ _)); exact BK217.out⟩, ⟨by repeat (first | (with_reducible first | exact HB.out | apply bA | apply bN | apply bD | refine below_set ?_ GE186.out | refine below_set ?_ GE187.out | refine below_set ?_ GE210.out | refine below_set ?_ GE217.out) | exact HB.out)⟩⟩
      ·rw [if_neg c48] at H
       have c48b0 : (t218 == t202) = false := beq_eq_false_iff_ne.mpr c48
       have c48b1 : (t218 != t202) = true := bne_iff_ne.mpr c48
       (first | rw [c48b0] | (simp only [i64_w, i32_w]; rw [c48b0]) | rw [c48b1] | rw [c48b2] | rw [c48b3] | rw [c48b4] | skip)
       have H' := aM H
       clear H
       go_wp2
       go_meet
       case rel => exact ⟨_, (true), rQ, H', ⟨by have := HJ3.out; have := HJ11.out; first | omega | exact Nat.le_refl _⟩, ⟨by (with_reducible repeat (first | apply rA | apply rN | apply rD)); exact Kd.R_mono HO209.out h2_⟩, ⟨by (with_reducible repeat (first | apply rA | apply rN | apply rD)); exact Kd.R_mono HO216.out h2_⟩, ⟨by (with_reducible repeat (first | refine blk_drewN ?_ _ | refine blk_drew ?_ | refine blk_alloc ?_ _)); exact BK186.out⟩, ⟨by (with_reducible repeat (first | refine blk_drewN ?_ _ | refine blk_drew ?_ | refine blk_alloc ?_ _)); exact BK187.out⟩, ⟨by (with_reducible repeat (first | refine blk_drewN ?_ _ | refine blk_drew ?_ | refine blk_alloc ?_ _)); exact BK210.out⟩, ⟨by (with_reducible repeat (first | refine blk_drewN ?_ _ | refine blk_drew ?_ | refine blk_alloc ?_ _)); exact BK217.out⟩, ⟨by repeat (first | (with_reducible first | exact HB.out | apply bA | apply bN | apply bD | refine below_set ?_ GE186.out | refine below_set ?_ GE187.out | refine below_set ?_ GE210.out | refine below_set ?_ GE217.out) | exact HB.out)⟩⟩
     case rest =>
      clear HC23
      try clear c1
      try clear p2
      try clear c3
      try clear c4
      try clear c5
      try clear c7
      try clear c9
      try clear c10
      try clear c10b0
      try clear c10b1
      try clear c10b2
      try clear c11
      try clear c13
      try clear c16
      try clear c16b0
      try clear c16b1
      try clear c16b2
      try clear c17
      try clear c30
      try clear c34
      try clear c35
      try clear c41
      try clear c42
      try clear c43
      try clear c48
      try clear c48b0
      try clear c48b1
      try clear c48b2
      try clear hcz14_0
      try clear hcz14_1
      try clear hcz14_2
      try clear hcz14_3
      try clear hcz31_0
      try clear hcz31_1
      try clear hcz31_2
      try clear hcz31_3
      try clear hcz36_0
      try clear hcz36_1
      try clear hcz36_2
      try clear hcz36_3
      try clear hcz38_0
      try clear hcz38_1
      try clear hcz38_2
      try clear hcz38_3
      try clear hcz44_0
      try clear hcz44_1
      try clear hcz44_2
      try clear hcz44_3
      try clear hcz46_0
      try clear hcz46_1
      try clear hcz46_2
      try clear hcz46_3
      try clear hcz8_0
      try clear hcz8_1
      try clear hcz8_2
      try clear hcz8_3
      try clear hfz14_0
      try clear hfz14_1
      try clear hfz14_2
      try clear hfz14_3
      try clear hfz31_0
      try clear hfz31_1
      try clear hfz31_2
      try clear hfz31_3
      try clear hfz36_0
      try clear hfz36_1
      try clear hfz36_2
      try clear hfz36_3
      try clear hfz38_0
      try clear hfz38_1
      try clear hfz38_2
      try clear hfz38_3
      try clear hfz44_0
      try clear hfz44_1
      try clear hfz44_2
      try clear hfz44_3
      try clear hfz46_0
      try clear hfz46_1
      try clear hfz46_2
      try clear hfz46_3
      try clear hfz8_0
      try clear hfz8_1
      try clear hfz8_2
      try clear hfz8_3
      try clear p2
      obtain ⟨kq, x47_22, rfl, HA, HJ22, HO_211003, HO_218003, BK186, BK187, BK210, BK217, HB⟩ := hcut
      cases kq with
      | zero => exact absurd HA.out (by simp [laws_FnExactDifferentPixels.j2])
      | succ kj22 =>
       have H := HA.out
       clear HA
       simp only [laws_FnExactDifferentPixels.j2] at H
       have HC49 := aM H
       clear H
       go_upto_if 47 with (fail)
       go_cut [] (fun wc => ∃ (kq : Nat), Aside0 (laws_FnExactDifferentPixels.j3 kq a0_0 a0_1 a0_2 l0_3 a1_0 a1_1 a1_2 l1_3 t204 t205 t206 t207 t211 t212 t213 t214 = some r) ∧ Aside0 (kq ≤ kj22) ∧ Aside0 (Kd.R Kd.string 9 wc w.heap.size (fun k_ => some k_ ≠ ((.slice Ao45 t214.length co45) : Value).ownBlock) (.slice Ao37 t207.length co37) t207) ∧ Aside0 (Kd.R Kd.string 9 wc w.heap.size (fun k_ => some k_ ≠ ((.slice Ao37 t207.length co37) : Value).ownBlock) (.slice Ao45 t214.length co45) t214) ∧ Aside0 (wc.heap[gb186]? = some (.cells #[.int .i64 a0_0, .int .i64 a0_1, .int .i64 a0_2, (.slice A0_3 l0_3.length c0_3)] 24 (0, 0))) ∧ Aside0 (wc.heap[gb187]? = some (.cells #[.int .i64 a1_0, .int .i64 a1_1, .int .i64 a1_2, (.slice A1_3 l1_3.length c1_3)] 24 (0, 0))) ∧ Aside0 (wc.heap[gb210]? = some (.cells #[.int .i64 t204, .int .i64 t205, .int .i64 t206, (.slice Ao37 t207.length co37)] 27 (0, 0))) ∧ Aside0 (wc.heap[gb217]? = some (.cells #[.int .i64 t211, .int .i64 t212, .int .i64 t213, (.slice Ao45 t214.length co45)] 27 (0, 0))) ∧ Aside0 (Below w.heap.size w wc))
       case first =>
        have H := HC49.out
        clear HC49
        by_cases c50 : x47_22 = true
        ·subst c50
         have H1 : (some false) = some r := by rw [if_pos rfl] at H; exact H
         clear H
         have H := H1
         clear H1
         obtain rfl := Option.some.inj H
         go_wp2
         go_ret
         exact ⟨eQ, by repeat (first | (with_reducible first | exact HB.out | apply bA | apply bN | apply bD | refine below_set ?_ GE186.out | refine below_set ?_ GE187.out | refine below_set ?_ GE210.out | refine below_set ?_ GE217.out) | exact HB.out)⟩
        ·replace c50 := Bool.eq_false_iff.mpr c50
         subst c50
         have H1 : (laws_FnExactDifferentPixels.j3 kj22 a0_0 a0_1 a0_2 l0_3 a1_0 a1_1 a1_2 l1_3 t204 t205 t206 t207 t211 t212 t213 t214) = some r := by rw [if_neg (show ¬ (false = true) by decide)] at H; exact H
         clear H
         have H := H1
         clear H1
         have H' := aM H
         clear H
         go_wp2
         go_meet
         case rel => exact ⟨_, H', ⟨by have := HJ3.out; have := HJ11.out; have := HJ22.out; first | omega | exact Nat.le_refl _⟩, ⟨by (with_reducible repeat (first | apply rA | apply rN | apply rD)); exact HO_211003.out⟩, ⟨by (with_reducible repeat (first | apply rA | apply rN | apply rD)); exact HO_218003.out⟩, ⟨by (with_reducible repeat (first | refine blk_drewN ?_ _ | refine blk_drew ?_ | refine blk_alloc ?_ _)); exact BK186.out⟩, ⟨by (with_reducible repeat (first | refine blk_drewN ?_ _ | refine blk_drew ?_ | refine blk_alloc ?_ _)); exact BK187.out⟩, ⟨by (with_reducible repeat (first | refine blk_drewN ?_ _ | refine blk_drew ?_ | refine blk_alloc ?_ _)); exact BK210.out⟩, ⟨by (with_reducible repeat (first | refine blk_drewN ?_ _ | refine blk_drew ?_ | refine blk_alloc ?_ _)); exact BK217.out⟩, ⟨by repeat (first | (with_reducible first | exact HB.out | apply bA | apply bN | apply bD | refine below_set ?_ GE186.out | refine below_set ?_ GE187.out | refine below_set ?_ GE210.out | refine below_set ?_ GE217.out) | exact HB.out)⟩⟩
       case rest =>
        clear HC49
        try clear c1
        try clear p2
        try clear c3
        try clear c4
        try clear c5
        try clear c7
        try clear c9
        try clear c10
        try clear c10b0
        try clear c10b1
        try clear c10b2
        try clear c11
        try clear c13
        try clear c16
        try clear c16b0
        try clear c16b1
        try clear c16b2
        try clear c17
        try clear c30
        try clear c34
        try clear c35
        try clear c41
        try clear c42
        try clear c43
        try clear c48
        try clear c48b0
        try clear c48b1
        try clear c48b2
        try clear c50
        try clear hcz14_0
        try clear hcz14_1
        try clear hcz14_2
        try clear hcz14_3
        try clear hcz31_0
        try clear hcz31_1
        try clear hcz31_2
        try clear hcz31_3
        try clear hcz36_0
        try clear hcz36_1
        try clear hcz36_2
        try clear hcz36_3
        try clear hcz38_0
        try clear hcz38_1
        try clear hcz38_2
        try clear hcz38_3
        try clear hcz44_0
        try clear hcz44_1
        try clear hcz44_2
        try clear hcz44_3
        try clear hcz46_0
        try clear hcz46_1
        try clear hcz46_2
        try clear hcz46_3
        try clear hcz8_0
        try clear hcz8_1
        try clear hcz8_2
        try clear hcz8_3
        try clear hfz14_0
        try clear hfz14_1
        try clear hfz14_2
        try clear hfz14_3
        try clear hfz31_0
        try clear hfz31_1
        try clear hfz31_2
        try clear hfz31_3
        try clear hfz36_0
        try clear hfz36_1
        try clear hfz36_2
        try clear hfz36_3
        try clear hfz38_0
        try clear hfz38_1
        try clear hfz38_2
        try clear hfz38_3
        try clear hfz44_0
        try clear hfz44_1
        try clear hfz44_2
        try clear hfz44_3
        try clear hfz46_0
        try clear hfz46_1
        try clear hfz46_2
        try clear hfz46_3
        try clear hfz8_0
        try clear hfz8_1
        try clear hfz8_2
        try clear hfz8_3
        try clear p2
        obtain ⟨kq, HA, HJ48, HO_211003, HO_218003, BK186, BK187, BK210, BK217, HB⟩ := hcut
        cases kq with
        | zero => exact absurd HA.out (by simp [laws_FnExactDifferentPixels.j3])
        | succ kj48 =>
         have H := HA.out
         clear HA
         simp only [laws_FnExactDifferentPixels.j3] at H
         replace H := Option.bind_eq_some_iff.mp H
         obtain ⟨⟨t220, t221, t222, t223⟩, A510, H⟩ := H
         replace H : ((laws_eqBitmap.f kj48 t204 t205 t206 t207 t220 t221 t222 t223).bind fun t226 => (if t226 = true then (laws_FnExactDifferentPixels.j4 kj48 a1_0 a1_1 a1_2 l1_3 t211 t212 t213 t214) else (some false))) = some r := H
         have A51 := aM A510
         clear A510
         replace H := Option.bind_eq_some_iff.mp H
         obtain ⟨t226, A520, H⟩ := H
         replace H : (if t226 = true then (laws_FnExactDifferentPixels.j4 kj48 a1_0 a1_1 a1_2 l1_3 t211 t212 t213 t214) else (some false)) = some r := H
         have A52 := aM A520
         clear A520
         have HC53 := aM H
         clear H
         try go_wp2
         have n0_ := aM (Kd.R_drew HO_211003.out)
         have n1_ := aM (Kd.R_drew HO_218003.out)
         have n2_ := aM (blk_drew BK186.out)
         have n3_ := aM (blk_drew BK187.out)
         have n4_ := aM (blk_drew BK210.out)
         have n5_ := aM (blk_drew BK217.out)
         have n6_ := aM (below_drew1 HB.out)
         clear HO_211003
         clear HO_218003
         clear BK186
         clear BK187
         clear BK210
         clear BK217
         clear HB
         have HO_211003 := n0_
         have HO_218003 := n1_
         have BK186 := n2_
         have BK187 := n3_
         have BK210 := n4_
         have BK217 := n5_
         have HB := n6_
         clear n0_ n1_ n2_ n3_ n4_ n5_ n6_
         refine start_ (n := 5) (S := fun w' => w'.cell? ⟨gb210, 0, none⟩ = some (.int .i64 t204) ∧ w'.cell? ⟨gb210, 1, none⟩ = some (.int .i64 t205) ∧ w'.cell? ⟨gb210, 2, none⟩ = some (.int .i64 t206) ∧ w'.cell? ⟨gb210, 3, none⟩ = some (.slice Ao37 t207.length co37) ∧ w'.cell? ⟨gb186, 0, none⟩ = some (.int .i64 a0_0) ∧ w'.cell? ⟨gb186, 1, none⟩ = some (.int .i64 a0_1) ∧ w'.cell? ⟨gb186, 2, none⟩ = some (.int .i64 a0_2) ∧ w'.cell? ⟨gb186, 3, none⟩ = some (.slice A0_3 l0_3.length c0_3)) (ds := []) mklaws_F769_11 (by kernel_rfl) rfl rfl ⟨(blk_cell BK210.out 0).trans rfl, (blk_cell BK210.out 1).trans rfl, (blk_cell BK210.out 2).trans rfl, (blk_cell BK210.out 3).trans rfl, (blk_cell BK186.out 0).trans rfl, (blk_cell BK186.out 1).trans rfl, (blk_cell BK186.out 2).trans rfl, (blk_cell BK186.out 3).trans rfl⟩ (fun hHeld => ?_)
         generalize wc.drew = w54 at HO_211003 HO_218003 BK186 BK187 BK210 BK217 HB hHeld ⊢
         refine take_ (i := 0) (N := some 48) (v := ?_) (a' := ?_) mklaws_F769_12 rfl rfl (by kernel_rfl) (fun _ _ _ h => h) (Or.inl ⟨by rfl, ?_⟩) hHeld ?_ ?_
         rotate_left
         ·rintro w' ⟨s0, s1, s2, s3, s4, s5, s6, s7⟩
          go_simp
          with_reducible rfl
         rotate_left
         ·simp only [Act.put, sI, sZ, sS, i64_w, i32_w]
          rfl
         refine take_ (i := 1) (N := some 49) (v := ?_) (a' := ?_) mklaws_F769_13 rfl rfl (by kernel_rfl) (fun _ _ _ h => h) (Or.inl ⟨by rfl, ?_⟩) hHeld ?_ ?_
         rotate_left
         ·rintro w' ⟨s0, s1, s2, s3, s4, s5, s6, s7⟩
          go_simp
          with_reducible rfl
         rotate_left
         ·simp only [Act.put, sI, sZ, sS, i64_w, i32_w]
          rfl
         refine one_ (i := 2) (N := some 50) mklaws_F769_14 rfl rfl (by kernel_rfl) (by decide) (fun K hK => ?_)
         refine goes_ Tryd.func11 (by kernel_rfl) rfl #[.agg #[.int .i64 a0_0, .int .i64 a0_1, .int .i64 a0_2, .slice A0_3 l0_3.length c0_3]] (by rfl) rfl rfl gQ ?_
         with_reducible refine (laws_toBitmap.calls kj48 a0_0 a0_1 a0_2 _ _ l0_3 t220 t221 t222 t223 _ ?side1 ?side2 A51.out).mono ?_
         (case side1 => exact cQ HR0_3.out)
         (case side2 => exact HC0_3.out)
         rintro e w55 ⟨v224, rfl, ho0, hb⟩
         refine ⟨_, rfl, ?_⟩
         have n0_ := aM (Kd.R_elder' (by (with_reducible repeat (first | apply rA | apply rN | apply rD)); exact HO_211003.out) (Kd.R_base ho0) hb)
         have n1_ := aM (Kd.R_elder' (by (with_reducible repeat (first | apply rA | apply rN | apply rD)); exact HO_218003.out) (Kd.R_base ho0) hb)
         have n2_ := aM (Kd.R_lower (Kd.R_new' (Kd.R_new' ho0 (Kd.R_lt (by (with_reducible repeat (first | apply rA | apply rN | apply rD)); exact HO_211003.out))) (Kd.R_lt (by (with_reducible repeat (first | apply rA | apply rN | apply rD)); exact HO_218003.out))) (below_size (by repeat (first | (with_reducible first | exact HB.out | apply bA | apply bN | apply bD | refine below_set ?_ GE186.out | refine below_set ?_ GE187.out | refine below_set ?_ GE210.out | refine below_set ?_ GE217.out) | exact HB.out))))
         have n3_ := aM (blk_below (g := gb186) (o := .cells #[.int .i64 a0_0, .int .i64 a0_1, .int .i64 a0_2, .slice A0_3 l0_3.length c0_3] 24 (0, 0)) (by (with_reducible repeat (first | refine blk_drewN ?_ _ | refine blk_drew ?_ | refine blk_alloc ?_ _)); exact BK186.out) hb)
         have n4_ := aM (blk_below (g := gb187) (o := .cells #[.int .i64 a1_0, .int .i64 a1_1, .int .i64 a1_2, .slice A1_3 l1_3.length c1_3] 24 (0, 0)) (by (with_reducible repeat (first | refine blk_drewN ?_ _ | refine blk_drew ?_ | refine blk_alloc ?_ _)); exact BK187.out) hb)
         have n5_ := aM (blk_below (g := gb210) (o := .cells #[.int .i64 t204, .int .i64 t205, .int .i64 t206, .slice Ao37 t207.length co37] 27 (0, 0)) (by (with_reducible repeat (first | refine blk_drewN ?_ _ | refine blk_drew ?_ | refine blk_alloc ?_ _)); exact BK210.out) hb)
         have n6_ := aM (blk_below (g := gb217) (o := .cells #[.int .i64 t211, .int .i64 t212, .int .i64 t213, .slice Ao45 t214.length co45] 27 (0, 0)) (by (with_reducible repeat (first | refine blk_drewN ?_ _ | refine blk_drew ?_ | refine blk_alloc ?_ _)); exact BK217.out) hb)
         have n7_ := aM (below_step (by repeat (first | (with_reducible first | exact HB.out | apply bA | apply bN | apply bD | refine below_set ?_ GE186.out | refine below_set ?_ GE187.out | refine below_set ?_ GE210.out | refine below_set ?_ GE217.out) | exact HB.out)) hb)
         clear HO_211003
         clear HO_218003
         clear BK186
         clear BK187
         clear BK210
         clear BK217
         clear HB
         have HO_211003 := n0_
         have HO_218003 := n1_
         have HO225 := n2_
         have BK186 := n3_
         have BK187 := n4_
         have BK210 := n5_
         have BK217 := n6_
         have HB := n7_
         clear n0_ n1_ n2_ n3_ n4_ n5_ n6_ n7_
         (try clear hb)
         (try clear hb2)
         (try clear hk)
         (try clear hi)
         (try clear ho0)
         obtain ⟨Ao56, co56, eo56⟩ := Kd.R_slice HO225.out
         (first | subst eo56 | (injection eo56 with f1_ f2_ f3_; have f4_ := f1_.symm; have f5_ := f3_.symm; clear f1_ f2_ f3_; subst f4_; subst f5_))
         refine hK.out _ _ ⟨(blk_cell BK210.out 0).trans rfl, (blk_cell BK210.out 1).trans rfl, (blk_cell BK210.out 2).trans rfl, (blk_cell BK210.out 3).trans rfl, (blk_cell BK186.out 0).trans rfl, (blk_cell BK186.out 1).trans rfl, (blk_cell BK186.out 2).trans rfl, (blk_cell BK186.out 3).trans rfl⟩ (fun hHeld => ?_)
         clear hK K
         refine norm_ (a' := ?_) ?_ ?_
         rotate_left
         ·show Act.put _ (some 50) _ = _
          simp only [Act.put, sI, sZ, sS, i64_w, i32_w]
          rfl
         refine one_ (i := 3) (N := some 51) mklaws_F769_15 rfl rfl (by kernel_rfl) (by decide) (fun K hK => ?_)
         refine goes_ Tryd.func13 (by kernel_rfl) rfl #[.agg #[.int .i64 t204, .int .i64 t205, .int .i64 t206, .slice Ao37 t207.length co37], .agg #[.int .i64 t220, .int .i64 t221, .int .i64 t222, .slice Ao56 t223.length co56]] (by rfl) rfl rfl gQ ?_
         with_reducible refine (laws_eqBitmap.calls kj48 t204 t205 t206 _ _ t207 t220 t221 t222 _ _ t223 t226 _ ?side1 ?side2 ?side3 ?side4 A52.out).mono ?_
         (case side1 => repeat (first | exact (Kd.R_reads' HO_211003.out).2.2 | (with_reducible first | refine cA ?_ _ | refine cN ?_ _ | refine cD ?_)))
         (case side2 => exact (Kd.R_reads' HO_211003.out).2.1)
         (case side3 => repeat (first | exact (Kd.R_reads' HO225.out).2.2 | (with_reducible first | refine cA ?_ _ | refine cN ?_ _ | refine cD ?_)))
         (case side4 => exact (Kd.R_reads' HO225.out).2.1)
         rintro e w57 ⟨rfl, hb⟩
         refine ⟨_, rfl, ?_⟩
         have n0_ := aM (Kd.R_below (by (with_reducible repeat (first | apply rA | apply rN | apply rD)); exact HO_211003.out) hb)
         have n1_ := aM (Kd.R_below (by (with_reducible repeat (first | apply rA | apply rN | apply rD)); exact HO_218003.out) hb)
         have n2_ := aM (Kd.R_below (by (with_reducible repeat (first | apply rA | apply rN | apply rD)); exact HO225.out) hb)
         have n3_ := aM (blk_below (g := gb186) (o := .cells #[.int .i64 a0_0, .int .i64 a0_1, .int .i64 a0_2, .slice A0_3 l0_3.length c0_3] 24 (0, 0)) (by (with_reducible repeat (first | refine blk_drewN ?_ _ | refine blk_drew ?_ | refine blk_alloc ?_ _)); exact BK186.out) hb)
         have n4_ := aM (blk_below (g := gb187) (o := .cells #[.int .i64 a1_0, .int .i64 a1_1, .int .i64 a1_2, .slice A1_3 l1_3.length c1_3] 24 (0, 0)) (by (with_reducible repeat (first | refine blk_drewN ?_ _ | refine blk_drew ?_ | refine blk_alloc ?_ _)); exact BK187.out) hb)
         have n5_ := aM (blk_below (g := gb210) (o := .cells #[.int .i64 t204, .int .i64 t205, .int .i64 t206, .slice Ao37 t207.length co37] 27 (0, 0)) (by (with_reducible repeat (first | refine blk_drewN ?_ _ | refine blk_drew ?_ | refine blk_alloc ?_ _)); exact BK210.out) hb)
         have n6_ := aM (blk_below (g := gb217) (o := .cells #[.int .i64 t211, .int .i64 t212, .int .i64 t213, .slice Ao45 t214.length co45] 27 (0, 0)) (by (with_reducible repeat (first | refine blk_drewN ?_ _ | refine blk_drew ?_ | refine blk_alloc ?_ _)); exact BK217.out) hb)
         have n7_ := aM (below_step (by repeat (first | (with_reducible first | exact HB.out | apply bA | apply bN | apply bD | refine below_set ?_ GE186.out | refine below_set ?_ GE187.out | refine below_set ?_ GE210.out | refine below_set ?_ GE217.out) | exact HB.out)) hb)
         clear HO_211003
         clear HO_218003
         clear HO225
         clear BK186
         clear BK187
         clear BK210
         clear BK217
         clear HB
         have HO_211003 := n0_
         have HO_218003 := n1_
         have HO225 := n2_
         have BK186 := n3_
         have BK187 := n4_
         have BK210 := n5_
         have BK217 := n6_
         have HB := n7_
         clear n0_ n1_ n2_ n3_ n4_ n5_ n6_ n7_
         (try clear hb)
         (try clear hb2)
         (try clear hk)
         (try clear hi)
         refine hK.out _ _ ⟨(blk_cell BK210.out 0).trans rfl, (blk_cell BK210.out 1).trans rfl, (blk_cell BK210.out 2).trans rfl, (blk_cell BK210.out 3).trans rfl, (blk_cell BK186.out 0).trans rfl, (blk_cell BK186.out 1).trans rfl, (blk_cell BK186.out 2).trans rfl, (blk_cell BK186.out 3).trans rfl⟩ (fun hHeld => ?_)
         clear hK K
         refine norm_ (a' := ?_) ?_ ?_
         rotate_left
         ·show Act.put _ (some 51) _ = _
          simp only [Act.put, sI, sZ, sS, i64_w, i32_w]
          rfl
         refine pure_ (i := 4) (N := some 52) (v := ?_) (a' := ?_) mklaws_F769_16 rfl rfl (by kernel_rfl) (fun _ _ _ h => h) (Or.inl ⟨by rfl, ?_⟩) ?_ ?_
         rotate_left
         ·intro w'
          go_simp
          with_reducible rfl
         rotate_left
         ·simp only [Act.put, sI, sZ, sS, i64_w, i32_w]
          rfl
         refine done_ (by kernel_rfl) ?_
         go_upto_if 52 with (fail)
         go_cut [] (fun wc => ∃ (kq : Nat), Aside0 (laws_FnExactDifferentPixels.j4 kq a1_0 a1_1 a1_2 l1_3 t211 t212 t213 t214 = some r) ∧ Aside0 (kq ≤ kj48) ∧ Aside0 (Kd.R Kd.string 9 wc w.heap.size (fun k_ => some k_ ≠ ((.slice Ao45 t214.length co45) : Value).ownBlock) (.slice Ao37 t207.length co37) t207) ∧ Aside0 (Kd.R Kd.string 9 wc w.heap.size (fun k_ => some k_ ≠ ((.slice Ao37 t207.length co37) : Value).ownBlock) (.slice Ao45 t214.length co45) t214) ∧ Aside0 (wc.heap[gb186]? = some (.cells #[.int .i64 a0_0, .int .i64 a0_1, .int .i64 a0_2, (.slice A0_3 l0_3.length c0_3)] 24 (0, 0))) ∧ Aside0 (wc.heap[gb187]? = some (.cells #[.int .i64 a1_0, .int .i64 a1_1, .int .i64 a1_2, (.slice A1_3 l1_3.length c1_3)] 24 (0, 0))) ∧ Aside0 (wc.heap[gb210]? = some (.cells #[.int .i64 t204, .int .i64 t205, .int .i64 t206, (.slice Ao37 t207.length co37)] 27 (0, 0))) ∧ Aside0 (wc.heap[gb217]? = some (.cells #[.int .i64 t211, .int .i64 t212, .int .i64 t213, (.slice Ao45 t214.length co45)] 27 (0, 0))) ∧ Aside0 (Below w.heap.size w wc))
         case first =>
          have H := HC53.out
          clear HC53
          by_cases c58 : t226 = true
          ·subst c58
           have H1 : (laws_FnExactDifferentPixels.j4 kj48 a1_0 a1_1 a1_2 l1_3 t211 t212 t213 t214) = some r := by rw [if_pos rfl] at H; exact H
           clear H
           have H := H1
           clear H1
           have H' := aM H
           clear H
           go_wp2
           go_meet
           case rel => exact ⟨_, H', ⟨by have := HJ3.out; have := HJ11.out; have := HJ22.out; have := HJ48.out; first | omega | exact Nat.le_refl _⟩, ⟨by (with_reducible repeat (first | apply rA | apply rN | apply rD)); exact Kd.R_mono HO_211003.out (fun _ hk => hk.1)⟩, ⟨by (with_reducible repeat (first | apply rA | apply rN | apply rD)); exact Kd.R_mono HO_218003.out (fun _ hk => hk.1)⟩, ⟨by (with_reducible repeat (first | refine blk_drewN ?_ _ | refine blk_drew ?_ | refine blk_alloc ?_ _)); exact BK186.out⟩, ⟨by (with_reducible repeat (first | refine blk_drewN ?_ _ | refine blk_drew ?_ | refine blk_alloc ?_ _)); exact BK187.out⟩, ⟨by (with_reducible repeat (first | refine blk_drewN ?_ _ | refine blk_drew ?_ | refine blk_alloc ?_ _)); exact BK210.out⟩, ⟨by (with_reducible repeat (first | refine blk_drewN ?_ _ | refine blk_drew ?_ | refine blk_alloc ?_ _)); exact BK217.out⟩, ⟨by repeat (first | (with_reducible first | exact HB.out | apply bA | apply bN | apply bD | refine below_set ?_ GE186.out | refine below_set ?_ GE187.out | refine below_set ?_ GE210.out | refine below_set ?_ GE217.out) | exact HB.out)⟩⟩
          ·replace c58 := Bool.eq_false_iff.mpr c58
           subst c58
           have H1 : (some false) = some r := by rw [if_neg (show ¬ (false = true) by decide)] at H; exact H
           clear H
           have H := H1
           clear H1
           obtain rfl := Option.some.inj H
           go_wp2
           go_ret
           exact ⟨eQ, by repeat (first | (with_reducible first | exact HB.out | apply bA | apply bN | apply bD | refine below_set ?_ GE186.out | refine below_set ?_ GE187.out | refine below_set ?_ GE210.out | refine below_set ?_ GE217.out) | exact HB.out)⟩
         case rest =>
          clear HC53
          try clear c1
          try clear p2
          try clear c3
          try clear c4
          try clear c5
          try clear c7
          try clear c9
          try clear c10
          try clear c10b0
          try clear c10b1
          try clear c10b2
          try clear c11
          try clear c13
          try clear c16
          try clear c16b0
          try clear c16b1
          try clear c16b2
          try clear c17
          try clear c30
          try clear c34
          try clear c35
          try clear c41
          try clear c42
          try clear c43
          try clear c48
          try clear c48b0
          try clear c48b1
          try clear c48b2
          try clear c50
          try clear c58
          try clear hcz14_0
          try clear hcz14_1
          try clear hcz14_2
          try clear hcz14_3
          try clear hcz31_0
          try clear hcz31_1
          try clear hcz31_2
          try clear hcz31_3
          try clear hcz36_0
          try clear hcz36_1
          try clear hcz36_2
          try clear hcz36_3
          try clear hcz38_0
          try clear hcz38_1
          try clear hcz38_2
          try clear hcz38_3
          try clear hcz44_0
          try clear hcz44_1
          try clear hcz44_2
          try clear hcz44_3
          try clear hcz46_0
          try clear hcz46_1
          try clear hcz46_2
          try clear hcz46_3
          try clear hcz8_0
          try clear hcz8_1
          try clear hcz8_2
          try clear hcz8_3
          try clear hfz14_0
          try clear hfz14_1
          try clear hfz14_2
          try clear hfz14_3
          try clear hfz31_0
          try clear hfz31_1
          try clear hfz31_2
          try clear hfz31_3
          try clear hfz36_0
          try clear hfz36_1
          try clear hfz36_2
          try clear hfz36_3
          try clear hfz38_0
          try clear hfz38_1
          try clear hfz38_2
          try clear hfz38_3
          try clear hfz44_0
          try clear hfz44_1
          try clear hfz44_2
          try clear hfz44_3
          try clear hfz46_0
          try clear hfz46_1
          try clear hfz46_2
          try clear hfz46_3
          try clear hfz8_0
          try clear hfz8_1
          try clear hfz8_2
          try clear hfz8_3
          try clear p2
          obtain ⟨kq, HA, HJ52, HO_211003, HO_218003, BK186, BK187, BK210, BK217, HB⟩ := hcut
          cases kq with
          | zero => exact absurd HA.out (by simp [laws_FnExactDifferentPixels.j4])
          | succ kj52 =>
           have H := HA.out
           clear HA
           simp only [laws_FnExactDifferentPixels.j4] at H
           replace H := Option.bind_eq_some_iff.mp H
           obtain ⟨⟨t227, t228, t229, t230⟩, A590, H⟩ := H
           replace H : ((laws_eqBitmap.f kj52 t211 t212 t213 t214 t227 t228 t229 t230).bind fun t233 => (if t233 = true then (some true) else (some false))) = some r := H
           have A59 := aM A590
           clear A590
           replace H := Option.bind_eq_some_iff.mp H
           obtain ⟨t233, A600, H⟩ := H
           replace H : (if t233 = true then (some true) else (some false)) = some r := H
           have A60 := aM A600
           clear A600
           by_cases c61 : t233 = true
           ·subst c61
            have H1 : (some true) = some r := by rw [if_pos rfl] at H; exact H
            clear H
            have H := H1
            clear H1
            obtain rfl := Option.some.inj H
            try go_wp2
            have n0_ := aM (Kd.R_drew HO_211003.out)
            have n1_ := aM (Kd.R_drew HO_218003.out)
            have n2_ := aM (blk_drew BK186.out)
            have n3_ := aM (blk_drew BK187.out)
            have n4_ := aM (blk_drew BK210.out)
            have n5_ := aM (blk_drew BK217.out)
            have n6_ := aM (below_drew1 HB.out)
            clear HO_211003
            clear HO_218003
            clear BK186
            clear BK187
            clear BK210
            clear BK217
            clear HB
            have HO_211003 := n0_
            have HO_218003 := n1_
            have BK186 := n2_
            have BK187 := n3_
            have BK210 := n4_
            have BK217 := n5_
            have HB := n6_
            clear n0_ n1_ n2_ n3_ n4_ n5_ n6_
            refine start_ (n := 5) (S := fun w' => w'.cell? ⟨gb217, 0, none⟩ = some (.int .i64 t211) ∧ w'.cell? ⟨gb217, 1, none⟩ = some (.int .i64 t212) ∧ w'.cell? ⟨gb217, 2, none⟩ = some (.int .i64 t213) ∧ w'.cell? ⟨gb217, 3, none⟩ = some (.slice Ao45 t214.length co45) ∧ w'.cell? ⟨gb187, 0, none⟩ = some (.int .i64 a1_0) ∧ w'.cell? ⟨gb187, 1, none⟩ = some (.int .i64 a1_1) ∧ w'.cell? ⟨gb187, 2, none⟩ = some (.int .i64 a1_2) ∧ w'.cell? ⟨gb187, 3, none⟩ = some (.slice A1_3 l1_3.length c1_3)) (ds := []) mklaws_F769_11 (by kernel_rfl) rfl rfl ⟨(blk_cell BK217.out 0).trans rfl, (blk_cell BK217.out 1).trans rfl, (blk_cell BK217.out 2).trans rfl, (blk_cell BK217.out 3).trans rfl, (blk_cell BK187.out 0).trans rfl, (blk_cell BK187.out 1).trans rfl, (blk_cell BK187.out 2).trans rfl, (blk_cell BK187.out 3).trans rfl⟩ (fun hHeld => ?_)
            generalize wc.drew = w62 at HO_211003 HO_218003 BK186 BK187 BK210 BK217 HB hHeld ⊢
            refine take_ (i := 0) (N := some 53) (v := ?_) (a' := ?_) mklaws_F769_12 rfl rfl (by kernel_rfl) (fun _ _ _ h => h) (Or.inl ⟨by rfl, ?_⟩) hHeld ?_ ?_
            rotate_left
            ·rintro w' ⟨s0, s1, s2, s3, s4, s5, s6, s7⟩
             go_simp
             with_reducible rfl
            rotate_left
            ·simp only [Act.put, sI, sZ, sS, i64_w, i32_w]
             rfl
            refine take_ (i := 1) (N := some 54) (v := ?_) (a' := ?_) mklaws_F769_13 rfl rfl (by kernel_rfl) (fun _ _ _ h => h) (Or.inl ⟨by rfl, ?_⟩) hHeld ?_ ?_
            rotate_left
            ·rintro w' ⟨s0, s1, s2, s3, s4, s5, s6, s7⟩
             go_simp
             with_reducible rfl
            rotate_left
            ·simp only [Act.put, sI, sZ, sS, i64_w, i32_w]
             rfl
            refine one_ (i := 2) (N := some 55) mklaws_F769_14 rfl rfl (by kernel_rfl) (by decide) (fun K hK => ?_)
            refine goes_ Tryd.func11 (by kernel_rfl) rfl #[.agg #[.int .i64 a1_0, .int .i64 a1_1, .int .i64 a1_2, .slice A1_3 l1_3.length c1_3]] (by rfl) rfl rfl gQ ?_
            with_reducible refine (laws_toBitmap.calls kj52 a1_0 a1_1 a1_2 _ _ l1_3 t227 t228 t229 t230 _ ?side1 ?side2 A59.out).mono ?_
            (case side1 => exact cQ HR1_3.out)
            (case side2 => exact HC1_3.out)
            rintro e w63 ⟨v231, rfl, ho0, hb⟩
            refine ⟨_, rfl, ?_⟩
            have n0_ := aM (Kd.R_elder' (by (with_reducible repeat (first | apply rA | apply rN | apply rD)); exact HO_211003.out) (Kd.R_base ho0) hb)
            have n1_ := aM (Kd.R_elder' (by (with_reducible repeat (first | apply rA | apply rN | apply rD)); exact HO_218003.out) (Kd.R_base ho0) hb)
            have n2_ := aM (Kd.R_lower (Kd.R_new' (Kd.R_new' ho0 (Kd.R_lt (by (with_reducible repeat (first | apply rA | apply rN | apply rD)); exact HO_211003.out))) (Kd.R_lt (by (with_reducible repeat (first | apply rA | apply rN | apply rD)); exact HO_218003.out))) (below_size (by repeat (first | (with_reducible first | exact HB.out | apply bA | apply bN | apply bD | refine below_set ?_ GE186.out | refine below_set ?_ GE187.out | refine below_set ?_ GE210.out | refine below_set ?_ GE217.out) | exact HB.out))))
            have n3_ := aM (blk_below (g := gb186) (o := .cells #[.int .i64 a0_0, .int .i64 a0_1, .int .i64 a0_2, .slice A0_3 l0_3.length c0_3] 24 (0, 0)) (by (with_reducible repeat (first | refine blk_drewN ?_ _ | refine blk_drew ?_ | refine blk_alloc ?_ _)); exact BK186.out) hb)
            have n4_ := aM (blk_below (g := gb187) (o := .cells #[.int .i64 a1_0, .int .i64 a1_1, .int .i64 a1_2, .slice A1_3 l1_3.length c1_3] 24 (0, 0)) (by (with_reducible repeat (first | refine blk_drewN ?_ _ | refine blk_drew ?_ | refine blk_alloc ?_ _)); exact BK187.out) hb)
            have n5_ := aM (blk_below (g := gb210) (o := .cells #[.int .i64 t204, .int .i64 t205, .int .i64 t206, .slice Ao37 t207.length co37] 27 (0, 0)) (by (with_reducible repeat (first | refine blk_drewN ?_ _ | refine blk_drew ?_ | refine blk_alloc ?_ _)); exact BK210.out) hb)
            have n6_ := aM (blk_below (g := gb217) (o := .cells #[.int .i64 t211, .int .i64 t212, .int .i64 t213, .slice Ao45 t214.length co45] 27 (0, 0)) (by (with_reducible repeat (first | refine blk_drewN ?_ _ | refine blk_drew ?_ | refine blk_alloc ?_ _)); exact BK217.out) hb)
            have n7_ := aM (below_step (by repeat (first | (with_reducible first | exact HB.out | apply bA | apply bN | apply bD | refine below_set ?_ GE186.out | refine below_set ?_ GE187.out | refine below_set ?_ GE210.out | refine below_set ?_ GE217.out) | exact HB.out)) hb)
            clear HO_211003
            clear HO_218003
            clear BK186
            clear BK187
            clear BK210
            clear BK217
            clear HB
            have HO_211003 := n0_
            have HO_218003 := n1_
            have HO232 := n2_
            have BK186 := n3_
            have BK187 := n4_
            have BK210 := n5_
            have BK217 := n6_
            have HB := n7_
            clear n0_ n1_ n2_ n3_ n4_ n5_ n6_ n7_
            (try clear hb)
            (try clear hb2)
            (try clear hk)
            (try clear hi)
            (try clear ho0)
            obtain ⟨Ao64, co64, eo64⟩ := Kd.R_slice HO232.out
            (first | subst eo64 | (injection eo64 with f1_ f2_ f3_; have f4_ := f1_.symm; have f5_ := f3_.symm; clear f1_ f2_ f3_; subst f4_; subst f5_))
            refine hK.out _ _ ⟨(blk_cell BK217.out 0).trans rfl, (blk_cell BK217.out 1).trans rfl, (blk_cell BK217.out 2).trans rfl, (blk_cell BK217.out 3).trans rfl, (blk_cell BK187.out 0).trans rfl, (blk_cell BK187.out 1).trans rfl, (blk_cell BK187.out 2).trans rfl, (blk_cell BK187.out 3).trans rfl⟩ (fun hHeld => ?_)
            clear hK K
            refine norm_ (a' := ?_) ?_ ?_
            rotate_left
            ·show Act.put _ (some 55) _ = _
             simp only [Act.put, sI, sZ, sS, i64_w, i32_w]
             rfl
            refine one_ (i := 3) (N := some 56) mklaws_F769_15 rfl rfl (by kernel_rfl) (by decide) (fun K hK => ?_)
            refine goes_ Tryd.func13 (by kernel_rfl) rfl #[.agg #[.int .i64 t211, .int .i64 t212, .int .i64 t213, .slice Ao45 t214.length co45], .agg #[.int .i64 t227, .int .i64 t228, .int .i64 t229, .slice Ao64 t230.length co64]] (by rfl) rfl rfl gQ ?_
            with_reducible refine (laws_eqBitmap.calls kj52 t211 t212 t213 _ _ t214 t227 t228 t229 _ _ t230 true _ ?side1 ?side2 ?side3 ?side4 A60.out).mono ?_
            (case side1 => repeat (first | exact (Kd.R_reads' HO_218003.out).2.2 | (with_reducible first | refine cA ?_ _ | refine cN ?_ _ | refine cD ?_)))
            (case side2 => exact (Kd.R_reads' HO_218003.out).2.1)
            (case side3 => repeat (first | exact (Kd.R_reads' HO232.out).2.2 | (with_reducible first | refine cA ?_ _ | refine cN ?_ _ | refine cD ?_)))
            (case side4 => exact (Kd.R_reads' HO232.out).2.1)
            rintro e w65 ⟨rfl, hb⟩
            refine ⟨_, rfl, ?_⟩
            have n0_ := aM (Kd.R_below (by (with_reducible repeat (first | apply rA | apply rN | apply rD)); exact HO_211003.out) hb)
            have n1_ := aM (Kd.R_below (by (with_reducible repeat (first | apply rA | apply rN | apply rD)); exact HO_218003.out) hb)
            have n2_ := aM (Kd.R_below (by (with_reducible repeat (first | apply rA | apply rN | apply rD)); exact HO232.out) hb)
            have n3_ := aM (blk_below (g := gb186) (o := .cells #[.int .i64 a0_0, .int .i64 a0_1, .int .i64 a0_2, .slice A0_3 l0_3.length c0_3] 24 (0, 0)) (by (with_reducible repeat (first | refine blk_drewN ?_ _ | refine blk_drew ?_ | refine blk_alloc ?_ _)); exact BK186.out) hb)
            have n4_ := aM (blk_below (g := gb187) (o := .cells #[.int .i64 a1_0, .int .i64 a1_1, .int .i64 a1_2, .slice A1_3 l1_3.length c1_3] 24 (0, 0)) (by (with_reducible repeat (first | refine blk_drewN ?_ _ | refine blk_drew ?_ | refine blk_alloc ?_ _)); exact BK187.out) hb)
            have n5_ := aM (blk_below (g := gb210) (o := .cells #[.int .i64 t204, .int .i64 t205, .int .i64 t206, .slice Ao37 t207.length co37] 27 (0, 0)) (by (with_reducible repeat (first | refine blk_drewN ?_ _ | refine blk_drew ?_ | refine blk_alloc ?_ _)); exact BK210.out) hb)
            have n6_ := aM (blk_below (g := gb217) (o := .cells #[.int .i64 t211, .int .i64 t212, .int .i64 t213, .slice Ao45 t214.length co45] 27 (0, 0)) (by (with_reducible repeat (first | refine blk_drewN ?_ _ | refine blk_drew ?_ | refine blk_alloc ?_ _)); exact BK217.out) hb)
            have n7_ := aM (below_step (by repeat (first | (with_reducible first | exact HB.out | apply bA | apply bN | apply bD | refine below_set ?_ GE186.out | refine below_set ?_ GE187.out | refine below_set ?_ GE210.out | refine below_set ?_ GE217.out) | exact HB.out)) hb)
            clear HO_211003
            clear HO_218003
            clear HO232
            clear BK186
            clear BK187
            clear BK210
            clear BK217
            clear HB
            have HO_211003 := n0_
            have HO_218003 := n1_
            have HO232 := n2_
            have BK186 := n3_
            have BK187 := n4_
            have BK210 := n5_
            have BK217 := n6_
            have HB := n7_
            clear n0_ n1_ n2_ n3_ n4_ n5_ n6_ n7_
            (try clear hb)
            (try clear hb2)
            (try clear hk)
            (try clear hi)
            refine hK.out _ _ ⟨(blk_cell BK217.out 0).trans rfl, (blk_cell BK217.out 1).trans rfl, (blk_cell BK217.out 2).trans rfl, (blk_cell BK217.out 3).trans rfl, (blk_cell BK187.out 0).trans rfl, (blk_cell BK187.out 1).trans rfl, (blk_cell BK187.out 2).trans rfl, (blk_cell BK187.out 3).trans rfl⟩ (fun hHeld => ?_)
            clear hK K
            refine norm_ (a' := ?_) ?_ ?_
            rotate_left
            ·show Act.put _ (some 56) _ = _
             simp only [Act.put, sI, sZ, sS, i64_w, i32_w]
             rfl
            refine pure_ (i := 4) (N := some 57) (v := ?_) (a' := ?_) mklaws_F769_16 rfl rfl (by kernel_rfl) (fun _ _ _ h => h) (Or.inl ⟨by rfl, ?_⟩) ?_ ?_
            rotate_left
            ·intro w'
             go_simp
             with_reducible rfl
            rotate_left
            ·simp only [Act.put, sI, sZ, sS, i64_w, i32_w]
             rfl
            refine done_ (by kernel_rfl) ?_
            try go_wp2
            go_ret
            exact ⟨eQ, by repeat (first | (with_reducible first | exact HB.out | apply bA | apply bN | apply bD | refine below_set ?_ GE186.out | refine below_set ?_ GE187.out | refine below_set ?_ GE210.out | refine below_set ?_ GE217.out) | exact HB.out)⟩
           ·replace c61 := Bool.eq_false_iff.mpr c61
            subst c61
            have H1 : (some false) = some r := by rw [if_neg (show ¬ (false = true) by decide)] at H; exact H
            clear H
            have H := H1
            clear H1
            obtain rfl := Option.some.inj H
            try go_wp2
            have n0_ := aM (Kd.R_drew HO_211003.out)
            have n1_ := aM (Kd.R_drew HO_218003.out)
            have n2_ := aM (blk_drew BK186.out)
            have n3_ := aM (blk_drew BK187.out)
            have n4_ := aM (blk_drew BK210.out)
            have n5_ := aM (blk_drew BK217.out)
            have n6_ := aM (below_drew1 HB.out)
            clear HO_211003
            clear HO_218003
            clear BK186
            clear BK187
            clear BK210
            clear BK217
            clear HB
            have HO_211003 := n0_
            have HO_218003 := n1_
            have BK186 := n2_
            have BK187 := n3_
            have BK210 := n4_
            have BK217 := n5_
            have HB := n6_
            clear n0_ n1_ n2_ n3_ n4_ n5_ n6_
            refine start_ (n := 5) (S := fun w' => w'.cell? ⟨gb217, 0, none⟩ = some (.int .i64 t211) ∧ w'.cell? ⟨gb217, 1, none⟩ = some (.int .i64 t212) ∧ w'.cell? ⟨gb217, 2, none⟩ = some (.int .i64 t213) ∧ w'.cell? ⟨gb217, 3, none⟩ = some (.slice Ao45 t214.length co45) ∧ w'.cell? ⟨gb187, 0, none⟩ = some (.int .i64 a1_0) ∧ w'.cell? ⟨gb187, 1, none⟩ = some (.int .i64 a1_1) ∧ w'.cell? ⟨gb187, 2, none⟩ = some (.int .i64 a1_2) ∧ w'.cell? ⟨gb187, 3, none⟩ = some (.slice A1_3 l1_3.length c1_3)) (ds := []) mklaws_F769_11 (by kernel_rfl) rfl rfl ⟨(blk_cell BK217.out 0).trans rfl, (blk_cell BK217.out 1).trans rfl, (blk_cell BK217.out 2).trans rfl, (blk_cell BK217.out 3).trans rfl, (blk_cell BK187.out 0).trans rfl, (blk_cell BK187.out 1).trans rfl, (blk_cell BK187.out 2).trans rfl, (blk_cell BK187.out 3).trans rfl⟩ (fun hHeld => ?_)
            generalize wc.drew = w66 at HO_211003 HO_218003 BK186 BK187 BK210 BK217 HB hHeld ⊢
            refine take_ (i := 0) (N := some 53) (v := ?_) (a' := ?_) mklaws_F769_12 rfl rfl (by kernel_rfl) (fun _ _ _ h => h) (Or.inl ⟨by rfl, ?_⟩) hHeld ?_ ?_
            rotate_left
            ·rintro w' ⟨s0, s1, s2, s3, s4, s5, s6, s7⟩
             go_simp
             with_reducible rfl
            rotate_left
            ·simp only [Act.put, sI, sZ, sS, i64_w, i32_w]
             rfl
            refine take_ (i := 1) (N := some 54) (v := ?_) (a' := ?_) mklaws_F769_13 rfl rfl (by kernel_rfl) (fun _ _ _ h => h) (Or.inl ⟨by rfl, ?_⟩) hHeld ?_ ?_
            rotate_left
            ·rintro w' ⟨s0, s1, s2, s3, s4, s5, s6, s7⟩
             go_simp
             with_reducible rfl
            rotate_left
            ·simp only [Act.put, sI, sZ, sS, i64_w, i32_w]
             rfl
            refine one_ (i := 2) (N := some 55) mklaws_F769_14 rfl rfl (by kernel_rfl) (by decide) (fun K hK => ?_)
            refine goes_ Tryd.func11 (by kernel_rfl) rfl #[.agg #[.int .i64 a1_0, .int .i64 a1_1, .int .i64 a1_2, .slice A1_3 l1_3.length c1_3]] (by rfl) rfl rfl gQ ?_
            with_reducible refine (laws_toBitmap.calls kj52 a1_0 a1_1 a1_2 _ _ l1_3 t227 t228 t229 t230 _ ?side1 ?side2 A59.out).mono ?_
            (case side1 => exact cQ HR1_3.out)
            (case side2 => exact HC1_3.out)
            rintro e w67 ⟨v231, rfl, ho0, hb⟩
            refine ⟨_, rfl, ?_⟩
            have n0_ := aM (Kd.R_elder' (by (with_reducible repeat (first | apply rA | apply rN | apply rD)); exact HO_211003.out) (Kd.R_base ho0) hb)
            have n1_ := aM (Kd.R_elder' (by (with_reducible repeat (first | apply rA | apply rN | apply rD)); exact HO_218003.out) (Kd.R_base ho0) hb)
            have n2_ := aM (Kd.R_lower (Kd.R_new' (Kd.R_new' ho0 (Kd.R_lt (by (with_reducible repeat (first | apply rA | apply rN | apply rD)); exact HO_211003.out))) (Kd.R_lt (by (with_reducible repeat (first | apply rA | apply rN | apply rD)); exact HO_218003.out))) (below_size (by repeat (first | (with_reducible first | exact HB.out | apply bA | apply bN | apply bD | refine below_set ?_ GE186.out | refine below_set ?_ GE187.out | refine below_set ?_ GE210.out | refine below_set ?_ GE217.out) | exact HB.out))))
            have n3_ := aM (blk_below (g := gb186) (o := .cells #[.int .i64 a0_0, .int .i64 a0_1, .int .i64 a0_2, .slice A0_3 l0_3.length c0_3] 24 (0, 0)) (by (with_reducible repeat (first | refine blk_drewN ?_ _ | refine blk_drew ?_ | refine blk_alloc ?_ _)); exact BK186.out) hb)
            have n4_ := aM (blk_below (g := gb187) (o := .cells #[.int .i64 a1_0, .int .i64 a1_1, .int .i64 a1_2, .slice A1_3 l1_3.length c1_3] 24 (0, 0)) (by (with_reducible repeat (first | refine blk_drewN ?_ _ | refine blk_drew ?_ | refine blk_alloc ?_ _)); exact BK187.out) hb)
            have n5_ := aM (blk_below (g := gb210) (o := .cells #[.int .i64 t204, .int .i64 t205, .int .i64 t206, .slice Ao37 t207.length co37] 27 (0, 0)) (by (with_reducible repeat (first | refine blk_drewN ?_ _ | refine blk_drew ?_ | refine blk_alloc ?_ _)); exact BK210.out) hb)
            have n6_ := aM (blk_below (g := gb217) (o := .cells #[.int .i64 t211, .int .i64 t212, .int .i64 t213, .slice Ao45 t214.length co45] 27 (0, 0)) (by (with_reducible repeat (first | refine blk_drewN ?_ _ | refine blk_drew ?_ | refine blk_alloc ?_ _)); exact BK217.out) hb)
            have n7_ := aM (below_step (by repeat (first | (with_reducible first | exact HB.out | apply bA | apply bN | apply bD | refine below_set ?_ GE186.out | refine below_set ?_ GE187.out | refine below_set ?_ GE210.out | refine below_set ?_ GE217.out) | exact HB.out)) hb)
            clear HO_211003
            clear HO_218003
            clear BK186
            clear BK187
            clear BK210
            clear BK217
            clear HB
            have HO_211003 := n0_
            have HO_218003 := n1_
            have HO232 := n2_
            have BK186 := n3_
            have BK187 := n4_
            have BK210 := n5_
            have BK217 := n6_
            have HB := n7_
            clear n0_ n1_ n2_ n3_ n4_ n5_ n6_ n7_
            (try clear hb)
            (try clear hb2)
            (try clear hk)
            (try clear hi)
            (try clear ho0)
            obtain ⟨Ao68, co68, eo68⟩ := Kd.R_slice HO232.out
            (first | subst eo68 | (injection eo68 with f1_ f2_ f3_; have f4_ := f1_.symm; have f5_ := f3_.symm; clear f1_ f2_ f3_; subst f4_; subst f5_))
            refine hK.out _ _ ⟨(blk_cell BK217.out 0).trans rfl, (blk_cell BK217.out 1).trans rfl, (blk_cell BK217.out 2).trans rfl, (blk_cell BK217.out 3).trans rfl, (blk_cell BK187.out 0).trans rfl, (blk_cell BK187.out 1).trans rfl, (blk_cell BK187.out 2).trans rfl, (blk_cell BK187.out 3).trans rfl⟩ (fun hHeld => ?_)
            clear hK K
            refine norm_ (a' := ?_) ?_ ?_
            rotate_left
            ·show Act.put _ (some 55) _ = _
             simp only [Act.put, sI, sZ, sS, i64_w, i32_w]
             rfl
            refine one_ (i := 3) (N := some 56) mklaws_F769_15 rfl rfl (by kernel_rfl) (by decide) (fun K hK => ?_)
            refine goes_ Tryd.func13 (by kernel_rfl) rfl #[.agg #[.int .i64 t211, .int .i64 t212, .int .i64 t213, .slice Ao45 t214.length co45], .agg #[.int .i64 t227, .int .i64 t228, .int .i64 t229, .slice Ao68 t230.length co68]] (by rfl) rfl rfl gQ ?_
            with_reducible refine (laws_eqBitmap.calls kj52 t211 t212 t213 _ _ t214 t227 t228 t229 _ _ t230 false _ ?side1 ?side2 ?side3 ?side4 A60.out).mono ?_
            (case side1 => repeat (first | exact (Kd.R_reads' HO_218003.out).2.2 | (with_reducible first | refine cA ?_ _ | refine cN ?_ _ | refine cD ?_)))
            (case side2 => exact (Kd.R_reads' HO_218003.out).2.1)
            (case side3 => repeat (first | exact (Kd.R_reads' HO232.out).2.2 | (with_reducible first | refine cA ?_ _ | refine cN ?_ _ | refine cD ?_)))
            (case side4 => exact (Kd.R_reads' HO232.out).2.1)
            rintro e w69 ⟨rfl, hb⟩
            refine ⟨_, rfl, ?_⟩
            have n0_ := aM (Kd.R_below (by (with_reducible repeat (first | apply rA | apply rN | apply rD)); exact HO_211003.out) hb)
            have n1_ := aM (Kd.R_below (by (with_reducible repeat (first | apply rA | apply rN | apply rD)); exact HO_218003.out) hb)
            have n2_ := aM (Kd.R_below (by (with_reducible repeat (first | apply rA | apply rN | apply rD)); exact HO232.out) hb)
            have n3_ := aM (blk_below (g := gb186) (o := .cells #[.int .i64 a0_0, .int .i64 a0_1, .int .i64 a0_2, .slice A0_3 l0_3.length c0_3] 24 (0, 0)) (by (with_reducible repeat (first | refine blk_drewN ?_ _ | refine blk_drew ?_ | refine blk_alloc ?_ _)); exact BK186.out) hb)
            have n4_ := aM (blk_below (g := gb187) (o := .cells #[.int .i64 a1_0, .int .i64 a1_1, .int .i64 a1_2, .slice A1_3 l1_3.length c1_3] 24 (0, 0)) (by (with_reducible repeat (first | refine blk_drewN ?_ _ | refine blk_drew ?_ | refine blk_alloc ?_ _)); exact BK187.out) hb)
            have n5_ := aM (blk_below (g := gb210) (o := .cells #[.int .i64 t204, .int .i64 t205, .int .i64 t206, .slice Ao37 t207.length co37] 27 (0, 0)) (by (with_reducible repeat (first | refine blk_drewN ?_ _ | refine blk_drew ?_ | refine blk_alloc ?_ _)); exact BK210.out) hb)
            have n6_ := aM (blk_below (g := gb217) (o := .cells #[.int .i64 t211, .int .i64 t212, .int .i64 t213, .slice Ao45 t214.length co45] 27 (0, 0)) (by (with_reducible repeat (first | refine blk_drewN ?_ _ | refine blk_drew ?_ | refine blk_alloc ?_ _)); exact BK217.out) hb)
            have n7_ := aM (below_step (by repeat (first | (with_reducible first | exact HB.out | apply bA | apply bN | apply bD | refine below_set ?_ GE186.out | refine below_set ?_ GE187.out | refine below_set ?_ GE210.out | refine below_set ?_ GE217.out) | exact HB.out)) hb)
            clear HO_211003
            clear HO_218003
            clear HO232
            clear BK186
            clear BK187
            clear BK210
            clear BK217
            clear HB
            have HO_211003 := n0_
            have HO_218003 := n1_
            have HO232 := n2_
            have BK186 := n3_
            have BK187 := n4_
            have BK210 := n5_
            have BK217 := n6_
            have HB := n7_
            clear n0_ n1_ n2_ n3_ n4_ n5_ n6_ n7_
            (try clear hb)
            (try clear hb2)
            (try clear hk)
            (try clear hi)
            refine hK.out _ _ ⟨(blk_cell BK217.out 0).trans rfl, (blk_cell BK217.out 1).trans rfl, (blk_cell BK217.out 2).trans rfl, (blk_cell BK217.out 3).trans rfl, (blk_cell BK187.out 0).trans rfl, (blk_cell BK187.out 1).trans rfl, (blk_cell BK187.out 2).trans rfl, (blk_cell BK187.out 3).trans rfl⟩ (fun hHeld => ?_)
            clear hK K
            refine norm_ (a' := ?_) ?_ ?_
            rotate_left
            ·show Act.put _ (some 56) _ = _
             simp only [Act.put, sI, sZ, sS, i64_w, i32_w]
             rfl
            refine pure_ (i := 4) (N := some 57) (v := ?_) (a' := ?_) mklaws_F769_16 rfl rfl (by kernel_rfl) (fun _ _ _ h => h) (Or.inl ⟨by rfl, ?_⟩) ?_ ?_
            rotate_left
            ·intro w'
             go_simp
             with_reducible rfl
            rotate_left
            ·simp only [Act.put, sI, sZ, sS, i64_w, i32_w]
             rfl
            refine done_ (by kernel_rfl) ?_
            try go_wp2
            go_ret
            exact ⟨eQ, by repeat (first | (with_reducible first | exact HB.out | apply bA | apply bN | apply bD | refine below_set ?_ GE186.out | refine below_set ?_ GE187.out | refine below_set ?_ GE210.out | refine below_set ?_ GE217.out) | exact HB.out)⟩

end Go.Proofs.YthngjfipdfckkaaDoor.QFnExactDifferentPixels
