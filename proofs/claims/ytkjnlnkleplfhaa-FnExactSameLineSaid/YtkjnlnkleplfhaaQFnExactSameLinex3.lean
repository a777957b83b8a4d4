/- What some Go functions answer, each as a Lean function, and that the machine answers so: written by a program of this session out of the translation. -/
import Derived.Test.YtkjnlnkleplfhaaQFnExactSameLinex0
import Derived.Test.YtkjnlnkleplfhaaQFnExactSameLinex1
import Derived.Test.YtkjnlnkleplfhaaQFnExactSameLinex2
namespace Go.Proofs.Ytkjnlnkleplfhaa.QFnExactSameLine
open Go.RowKit Go.Proofs.YtkjnlnkleplfhaaW.PrintWords Go.Proofs.YtkjnlnkleplfhaaW.PrintLast Go.Proofs.YtkjnlnkleplfhaaW.PrintMore Go.Proofs.Ytkjnlnkleplfhaa.Rp
attribute [local go_sem] max2_int min2_int max_two min_two max_three min_three max_four min_four   -- for this text's walks alone
set_option linter.unusedVariables false
set_option linter.unusedSimpArgs false

/-! ### laws_FnExactSameLine: function 10 -/
mutual
def laws_FnExactSameLine.j0 : Nat → Int → Int → ByteArray → List ByteArray → List ByteArray → List ByteArray → List ByteArray → Int → Int → ByteArray → List ByteArray → List ByteArray → List ByteArray → List ByteArray → Int → Option (Bool)
  | 0, _, _, _, _, _, _, _, _, _, _, _, _, _, _, _ => none
  | k + 1, x5, x152000, x152001, x152002, x152003, x152004, x152005, x152006, x153000, x153001, x153002, x153003, x153004, x153005, x153006 => (laws_szFeatureLine.f k x153000 x153001 x153002 x153003 x153004 x153005 x153006 x5).bind fun t154 => (if t154 < 0 then (some true) else (laws_FnExactSameLine.j1 k x152000 x152001 x152002 x152003 x152004 x152005 x152006 x153000 x153001 x153002 x153003 x153004 x153005 x153006))
def laws_FnExactSameLine.j1 : Nat → Int → ByteArray → List ByteArray → List ByteArray → List ByteArray → List ByteArray → Int → Int → ByteArray → List ByteArray → List ByteArray → List ByteArray → List ByteArray → Int → Option (Bool)
  | 0, _, _, _, _, _, _, _, _, _, _, _, _, _, _ => none
  | k + 1, x152000, x152001, x152002, x152003, x152004, x152005, x152006, x153000, x153001, x153002, x153003, x153004, x153005, x153006 => (laws_toFeatureLine.f k x152000 x152001 x152002 x152003 x152004 x152005 x152006).bind fun bt155 => ((laws_toFeatureLine.f k x153000 x153001 x153002 x153003 x153004 x153005 x153006).bind fun bt170 => ((spec_SameLine.f k bt155.1 bt155.2.1 bt155.2.2.1 bt155.2.2.2.1 bt155.2.2.2.2.1 bt155.2.2.2.2.2.1 bt155.2.2.2.2.2.2 bt170.1 bt170.2.1 bt170.2.2.1 bt170.2.2.2.1 bt170.2.2.2.2.1 bt170.2.2.2.2.2.1 bt170.2.2.2.2.2.2).bind fun t185 => ((laws_toFeatureLine.f k x152000 x152001 x152002 x152003 x152004 x152005 x152006).bind fun bt186 => ((laws_toFeatureLine.f k x153000 x153001 x153002 x153003 x153004 x153005 x153006).bind fun bt202 => ((impl_SameLine.f k bt186.1 bt186.2.1 bt186.2.2.1 bt186.2.2.2.1 bt186.2.2.2.2.1 bt186.2.2.2.2.2.1 bt186.2.2.2.2.2.2 bt202.1 bt202.2.1 bt202.2.2.1 bt202.2.2.2.1 bt202.2.2.2.2.1 bt202.2.2.2.2.2.1 bt202.2.2.2.2.2.2).bind fun t218 => (if (t218 != t185) = true then (some false) else (laws_FnExactSameLine.j2 k x152000 x152001 x152002 x152003 x152004 x152005 x152006 x153000 x153001 x153002 x153003 x153004 x153005 x153006 bt186.1 bt186.2.1 bt186.2.2.1 bt186.2.2.2.1 bt186.2.2.2.2.1 bt186.2.2.2.2.2.1 bt186.2.2.2.2.2.2 bt202.1 bt202.2.1 bt202.2.2.1 bt202.2.2.2.1 bt202.2.2.2.2.1 bt202.2.2.2.2.2.1 bt202.2.2.2.2.2.2)))))))
def laws_FnExactSameLine.j2 : Nat → Int → ByteArray → List ByteArray → List ByteArray → List ByteArray → List ByteArray → Int → Int → ByteArray → List ByteArray → List ByteArray → List ByteArray → List ByteArray → Int → Int → ByteArray → List ByteArray → List ByteArray → List ByteArray → List ByteArray → Int → Int → ByteArray → List ByteArray → List ByteArray → List ByteArray → List ByteArray → Int → Option (Bool)
  | 0, _, _, _, _, _, _, _, _, _, _, _, _, _, _, _, _, _, _, _, _, _, _, _, _, _, _, _, _ => none
  | k + 1, x152000, x152001, x152002, x152003, x152004, x152005, x152006, x153000, x153001, x153002, x153003, x153004, x153005, x153006, x202000, x202001, x202002, x202003, x202004, x202005, x202006, x218000, x218001, x218002, x218003, x218004, x218005, x218006 => (laws_toFeatureLine.f k x152000 x152001 x152002 x152003 x152004 x152005 x152006).bind fun bt219 => ((laws_eqFeatureLine.f k x202000 x202001 x202002 x202003 x202004 x202005 x202006 bt219.1 bt219.2.1 bt219.2.2.1 bt219.2.2.2.1 bt219.2.2.2.2.1 bt219.2.2.2.2.2.1 bt219.2.2.2.2.2.2).bind fun t234 => (if t234 = true then (laws_FnExactSameLine.j3 k x153000 x153001 x153002 x153003 x153004 x153005 x153006 x218000 x218001 x218002 x218003 x218004 x218005 x218006) else (some false)))
def laws_FnExactSameLine.j3 : Nat → Int → ByteArray → List ByteArray → List ByteArray → List ByteArray → List ByteArray → Int → Int → ByteArray → List ByteArray → List ByteArray → List ByteArray → List ByteArray → Int → Option (Bool)
  | 0, _, _, _, _, _, _, _, _, _, _, _, _, _, _ => none
  | k + 1, x153000, x153001, x153002, x153003, x153004, x153005, x153006, x218000, x218001, x218002, x218003, x218004, x218005, x218006 => (laws_toFeatureLine.f k x153000 x153001 x153002 x153003 x153004 x153005 x153006).bind fun bt235 => ((laws_eqFeatureLine.f k x218000 x218001 x218002 x218003 x218004 x218005 x218006 bt235.1 bt235.2.1 bt235.2.2.1 bt235.2.2.2.1 bt235.2.2.2.2.1 bt235.2.2.2.2.2.1 bt235.2.2.2.2.2.2).bind fun t250 => (if t250 = true then (some true) else (some false)))
end
def laws_FnExactSameLine.f (k : Nat) (a0_0 : Int) (a0_1 : ByteArray) (l0_2 : List ByteArray) (l0_3 : List ByteArray) (l0_4 : List ByteArray) (l0_5 : List ByteArray) (a0_6 : Int) (a1_0 : Int) (a1_1 : ByteArray) (l1_2 : List ByteArray) (l1_3 : List ByteArray) (l1_4 : List ByteArray) (l1_5 : List ByteArray) (a1_6 : Int) : Option (Bool) := (laws_szFeatureLine.f k a0_0 a0_1 l0_2 l0_3 l0_4 l0_5 a0_6 1048576).bind fun t153 => (if t153 < 0 then (some true) else (laws_FnExactSameLine.j0 k t153 a0_0 a0_1 l0_2 l0_3 l0_4 l0_5 a0_6 a1_0 a1_1 l1_2 l1_3 l1_4 l1_5 a1_6))
theorem laws_FnExactSameLine.mono_l : ∀ k, (∀ y0 y1 y2 y3 y4 y5 y6 y7 y8 y9 y10 y11 y12 y13 y14, LeO (laws_FnExactSameLine.j0 k y0 y1 y2 y3 y4 y5 y6 y7 y8 y9 y10 y11 y12 y13 y14) (laws_FnExactSameLine.j0 (k + 1) y0 y1 y2 y3 y4 y5 y6 y7 y8 y9 y10 y11 y12 y13 y14)) ∧ (∀ y0 y1 y2 y3 y4 y5 y6 y7 y8 y9 y10 y11 y12 y13, LeO (laws_FnExactSameLine.j1 k y0 y1 y2 y3 y4 y5 y6 y7 y8 y9 y10 y11 y12 y13) (laws_FnExactSameLine.j1 (k + 1) y0 y1 y2 y3 y4 y5 y6 y7 y8 y9 y10 y11 y12 y13)) ∧ (∀ y0 y1 y2 y3 y4 y5 y6 y7 y8 y9 y10 y11 y12 y13 y14 y15 y16 y17 y18 y19 y20 y21 y22 y23 y24 y25 y26 y27, LeO (laws_FnExactSameLine.j2 k y0 y1 y2 y3 y4 y5 y6 y7 y8 y9 y10 y11 y12 y13 y14 y15 y16 y17 y18 y19 y20 y21 y22 y23 y24 y25 y26 y27) (laws_FnExactSameLine.j2 (k + 1) y0 y1 y2 y3 y4 y5 y6 y7 y8 y9 y10 y11 y12 y13 y14 y15 y16 y17 y18 y19 y20 y21 y22 y23 y24 y25 y26 y27)) ∧ (∀ y0 y1 y2 y3 y4 y5 y6 y7 y8 y9 y10 y11 y12 y13, LeO (laws_FnExactSameLine.j3 k y0 y1 y2 y3 y4 y5 y6 y7 y8 y9 y10 y11 y12 y13) (laws_FnExactSameLine.j3 (k + 1) y0 y1 y2 y3 y4 y5 y6 y7 y8 y9 y10 y11 y12 y13))
  | 0 => ⟨fun _ _ _ _ _ _ _ _ _ _ _ _ _ _ _ r h => by simp [laws_FnExactSameLine.j0] at h, fun _ _ _ _ _ _ _ _ _ _ _ _ _ _ r h => by simp [laws_FnExactSameLine.j1] at h, fun _ _ _ _ _ _ _ _ _ _ _ _ _ _ _ _ _ _ _ _ _ _ _ _ _ _ _ _ r h => by simp [laws_FnExactSameLine.j2] at h, fun _ _ _ _ _ _ _ _ _ _ _ _ _ _ r h => by simp [laws_FnExactSameLine.j3] at h⟩
  | k + 1 => by
    obtain ⟨ih0, ih1, ih2, ih3⟩ := laws_FnExactSameLine.mono_l k
    refine ⟨?_, ?_, ?_, ?_⟩
    · intro y0 y1 y2 y3 y4 y5 y6 y7 y8 y9 y10 y11 y12 y13 y14
      unfold laws_FnExactSameLine.j0
      repeat' first
      | (with_reducible exact ih0 _ _ _ _ _ _ _ _ _ _ _ _ _ _ _)
      | (with_reducible exact ih1 _ _ _ _ _ _ _ _ _ _ _ _ _ _)
      | (with_reducible exact ih2 _ _ _ _ _ _ _ _ _ _ _ _ _ _ _ _ _ _ _ _ _ _ _ _ _ _ _ _)
      | (with_reducible exact ih3 _ _ _ _ _ _ _ _ _ _ _ _ _ _)
      | (with_reducible exact impl_SameLine.mono _ _ _ _ _ _ _ _ _ _ _ _ _ _ _)
      | (with_reducible exact laws_eqFeatureLine.mono _ _ _ _ _ _ _ _ _ _ _ _ _ _ _)
      | (with_reducible exact laws_szFeatureLine.mono _ _ _ _ _ _ _ _ _)
      | (with_reducible exact laws_toFeatureLine.mono _ _ _ _ _ _ _ _)
      | (with_reducible exact spec_SameLine.mono _ _ _ _ _ _ _ _ _ _ _ _ _ _ _)
      | (with_reducible exact LeO.refl _)
      | (with_reducible exact LeO.none _)
      | (with_reducible refine LeO.ite ?_ ?_)
      | (with_reducible refine LeO.bind ?_ (fun _ => ?_))
      | exact ih0 _ _ _ _ _ _ _ _ _ _ _ _ _ _ _
      | exact ih1 _ _ _ _ _ _ _ _ _ _ _ _ _ _
      | exact ih2 _ _ _ _ _ _ _ _ _ _ _ _ _ _ _ _ _ _ _ _ _ _ _ _ _ _ _ _
      | exact ih3 _ _ _ _ _ _ _ _ _ _ _ _ _ _
      | exact impl_SameLine.mono _ _ _ _ _ _ _ _ _ _ _ _ _ _ _
      | exact laws_eqFeatureLine.mono _ _ _ _ _ _ _ _ _ _ _ _ _ _ _
      | exact laws_szFeatureLine.mono _ _ _ _ _ _ _ _ _
      | exact laws_toFeatureLine.mono _ _ _ _ _ _ _ _
      | exact spec_SameLine.mono _ _ _ _ _ _ _ _ _ _ _ _ _ _ _
      | exact LeO.none _
      | refine LeO.ite ?_ ?_
      | refine LeO.bind ?_ (fun _ => ?_)
    · intro y0 y1 y2 y3 y4 y5 y6 y7 y8 y9 y10 y11 y12 y13
      unfold laws_FnExactSameLine.j1
      repeat' first
      | (with_reducible exact ih0 _ _ _ _ _ _ _ _ _ _ _ _ _ _ _)
      | (with_reducible exact ih1 _ _ _ _ _ _ _ _ _ _ _ _ _ _)
      | (with_reducible exact ih2 _ _ _ _ _ _ _ _ _ _ _ _ _ _ _ _ _ _ _ _ _ _ _ _ _ _ _ _)
      | (with_reducible exact ih3 _ _ _ _ _ _ _ _ _ _ _ _ _ _)
      | (with_reducible exact impl_SameLine.mono _ _ _ _ _ _ _ _ _ _ _ _ _ _ _)
      | (with_reducible exact laws_eqFeatureLine.mono _ _ _ _ _ _ _ _ _ _ _ _ _ _ _)
      | (with_reducible exact laws_szFeatureLine.mono _ _ _ _ _ _ _ _ _)
      | (with_reducible exact laws_toFeatureLine.mono _ _ _ _ _ _ _ _)
      | (with_reducible exact spec_SameLine.mono _ _ _ _ _ _ _ _ _ _ _ _ _ _ _)
      | (with_reducible exact LeO.refl _)
      | (with_reducible exact LeO.none _)
      | (with_reducible refine LeO.ite ?_ ?_)
      | (with_reducible refine LeO.bind ?_ (fun _ => ?_))
      | exact ih0 _ _ _ _ _ _ _ _ _ _ _ _ _ _ _
      | exact ih1 _ _ _ _ _ _ _ _ _ _ _ _ _ _
      | exact ih2 _ _ _ _ _ _ _ _ _ _ _ _ _ _ _ _ _ _ _ _ _ _ _ _ _ _ _ _
      | exact ih3 _ _ _ _ _ _ _ _ _ _ _ _ _ _
      | exact impl_SameLine.mono _ _ _ _ _ _ _ _ _ _ _ _ _ _ _
      | exact laws_eqFeatureLine.mono _ _ _ _ _ _ _ _ _ _ _ _ _ _ _
      | exact laws_szFeatureLine.mono _ _ _ _ _ _ _ _ _
      | exact laws_toFeatureLine.mono _ _ _ _ _ _ _ _
      | exact spec_SameLine.mono _ _ _ _ _ _ _ _ _ _ _ _ _ _ _
      | exact LeO.none _
      | refine LeO.ite ?_ ?_
      | refine LeO.bind ?_ (fun _ => ?_)
    · intro y0 y1 y2 y3 y4 y5 y6 y7 y8 y9 y10 y11 y12 y13 y14 y15 y16 y17 y18 y19 y20 y21 y22 y23 y24 y25 y26 y27
      unfold laws_FnExactSameLine.j2
      repeat' first
      | (with_reducible exact ih0 _ _ _ _ _ _ _ _ _ _ _ _ _ _ _)
      | (with_reducible exact ih1 _ _ _ _ _ _ _ _ _ _ _ _ _ _)
      | (with_reducible exact ih2 _ _ _ _ _ _ _ _ _ _ _ _ _ _ _ _ _ _ _ _ _ _ _ _ _ _ _ _)
      | (with_reducible exact ih3 _ _ _ _ _ _ _ _ _ _ _ _ _ _)
      | (with_reducible exact impl_SameLine.mono _ _ _ _ _ _ _ _ _ _ _ _ _ _ _)
      | (with_reducible exact laws_eqFeatureLine.mono _ _ _ _ _ _ _ _ _ _ _ _ _ _ _)
      | (with_reducible exact laws_szFeatureLine.mono _ _ _ _ _ _ _ _ _)
      | (with_reducible exact laws_toFeatureLine.mono _ _ _ _ _ _ _ _)
      | (with_reducible exact spec_SameLine.mono _ _ _ _ _ _ _ _ _ _ _ _ _ _ _)
      | (with_reducible exact LeO.refl _)
      | (with_reducible exact LeO.none _)
      | (with_reducible refine LeO.ite ?_ ?_)
      | (with_reducible refine LeO.bind ?_ (fun _ => ?_))
      | exact ih0 _ _ _ _ _ _ _ _ _ _ _ _ _ _ _
      | exact ih1 _ _ _ _ _ _ _ _ _ _ _ _ _ _
      | exact ih2 _ _ _ _ _ _ _ _ _ _ _ _ _ _ _ _ _ _ _ _ _ _ _ _ _ _ _ _
      | exact ih3 _ _ _ _ _ _ _ _ _ _ _ _ _ _
      | exact impl_SameLine.mono _ _ _ _ _ _ _ _ _ _ _ _ _ _ _
      | exact laws_eqFeatureLine.mono _ _ _ _ _ _ _ _ _ _ _ _ _ _ _
      | exact laws_szFeatureLine.mono _ _ _ _ _ _ _ _ _
      | exact laws_toFeatureLine.mono _ _ _ _ _ _ _ _
      | exact spec_SameLine.mono _ _ _ _ _ _ _ _ _ _ _ _ _ _ _
      | exact LeO.none _
      | refine LeO.ite ?_ ?_
      | refine LeO.bind ?_ (fun _ => ?_)
    · intro y0 y1 y2 y3 y4 y5 y6 y7 y8 y9 y10 y11 y12 y13
      unfold laws_FnExactSameLine.j3
      repeat' first
      | (with_reducible exact ih0 _ _ _ _ _ _ _ _ _ _ _ _ _ _ _)
      | (with_reducible exact ih1 _ _ _ _ _ _ _ _ _ _ _ _ _ _)
      | (with_reducible exact ih2 _ _ _ _ _ _ _ _ _ _ _ _ _ _ _ _ _ _ _ _ _ _ _ _ _ _ _ _)
      | (with_reducible exact ih3 _ _ _ _ _ _ _ _ _ _ _ _ _ _)
      | (with_reducible exact impl_SameLine.mono _ _ _ _ _ _ _ _ _ _ _ _ _ _ _)
      | (with_reducible exact laws_eqFeatureLine.mono _ _ _ _ _ _ _ _ _ _ _ _ _ _ _)
      | (with_reducible exact laws_szFeatureLine.mono _ _ _ _ _ _ _ _ _)
      | (with_reducible exact laws_toFeatureLine.mono _ _ _ _ _ _ _ _)
      | (with_reducible exact spec_SameLine.mono _ _ _ _ _ _ _ _ _ _ _ _ _ _ _)
      | (with_reducible exact LeO.refl _)
      | (with_reducible exact LeO.none _)
      | (with_reducible refine LeO.ite ?_ ?_)
      | (with_reducible refine LeO.bind ?_ (fun _ => ?_))
      | exact ih0 _ _ _ _ _ _ _ _ _ _ _ _ _ _ _
      | exact ih1 _ _ _ _ _ _ _ _ _ _ _ _ _ _
      | exact ih2 _ _ _ _ _ _ _ _ _ _ _ _ _ _ _ _ _ _ _ _ _ _ _ _ _ _ _ _
      | exact ih3 _ _ _ _ _ _ _ _ _ _ _ _ _ _
      | exact impl_SameLine.mono _ _ _ _ _ _ _ _ _ _ _ _ _ _ _
      | exact laws_eqFeatureLine.mono _ _ _ _ _ _ _ _ _ _ _ _ _ _ _
      | exact laws_szFeatureLine.mono _ _ _ _ _ _ _ _ _
      | exact laws_toFeatureLine.mono _ _ _ _ _ _ _ _
      | exact spec_SameLine.mono _ _ _ _ _ _ _ _ _ _ _ _ _ _ _
      | exact LeO.none _
      | refine LeO.ite ?_ ?_
      | refine LeO.bind ?_ (fun _ => ?_)
theorem laws_FnExactSameLine.mono : ∀ a0 a1 a2 a3 a4 a5 a6 a7 a8 a9 a10 a11 a12 a13 k, LeO (laws_FnExactSameLine.f k a0 a1 a2 a3 a4 a5 a6 a7 a8 a9 a10 a11 a12 a13) (laws_FnExactSameLine.f (k + 1) a0 a1 a2 a3 a4 a5 a6 a7 a8 a9 a10 a11 a12 a13) := by
  intro a0 a1 a2 a3 a4 a5 a6 a7 a8 a9 a10 a11 a12 a13 k
  obtain ⟨ih0, ih1, ih2, ih3⟩ := laws_FnExactSameLine.mono_l k
  unfold laws_FnExactSameLine.f
  repeat' first
      | (with_reducible exact ih0 _ _ _ _ _ _ _ _ _ _ _ _ _ _ _)
      | (with_reducible exact ih1 _ _ _ _ _ _ _ _ _ _ _ _ _ _)
      | (with_reducible exact ih2 _ _ _ _ _ _ _ _ _ _ _ _ _ _ _ _ _ _ _ _ _ _ _ _ _ _ _ _)
      | (with_reducible exact ih3 _ _ _ _ _ _ _ _ _ _ _ _ _ _)
      | (with_reducible exact impl_SameLine.mono _ _ _ _ _ _ _ _ _ _ _ _ _ _ _)
      | (with_reducible exact laws_eqFeatureLine.mono _ _ _ _ _ _ _ _ _ _ _ _ _ _ _)
      | (with_reducible exact laws_szFeatureLine.mono _ _ _ _ _ _ _ _ _)
      | (with_reducible exact laws_toFeatureLine.mono _ _ _ _ _ _ _ _)
      | (with_reducible exact spec_SameLine.mono _ _ _ _ _ _ _ _ _ _ _ _ _ _ _)
      | (with_reducible exact LeO.refl _)
      | (with_reducible exact LeO.none _)
      | (with_reducible refine LeO.ite ?_ ?_)
      | (with_reducible refine LeO.bind ?_ (fun _ => ?_))
      | exact ih0 _ _ _ _ _ _ _ _ _ _ _ _ _ _ _
      | exact ih1 _ _ _ _ _ _ _ _ _ _ _ _ _ _
      | exact ih2 _ _ _ _ _ _ _ _ _ _ _ _ _ _ _ _ _ _ _ _ _ _ _ _ _ _ _ _
      | exact ih3 _ _ _ _ _ _ _ _ _ _ _ _ _ _
      | exact impl_SameLine.mono _ _ _ _ _ _ _ _ _ _ _ _ _ _ _
      | exact laws_eqFeatureLine.mono _ _ _ _ _ _ _ _ _ _ _ _ _ _ _
      | exact laws_szFeatureLine.mono _ _ _ _ _ _ _ _ _
      | exact laws_toFeatureLine.mono _ _ _ _ _ _ _ _
      | exact spec_SameLine.mono _ _ _ _ _ _ _ _ _ _ _ _ _ _ _
      | exact LeO.none _
      | refine LeO.ite ?_ ?_
      | refine LeO.bind ?_ (fun _ => ?_)
set_option maxHeartbeats 8000000 in
set_option maxRecDepth 100000 in
theorem laws_FnExactSameLine.calls (k : Nat) (a0_0 : Int) (a0_1 : ByteArray) (A0_2 : Option Addr) (c0_2 : Nat) (l0_2 : List ByteArray) (A0_3 : Option Addr) (c0_3 : Nat) (l0_3 : List ByteArray) (A0_4 : Option Addr) (c0_4 : Nat) (l0_4 : List ByteArray) (A0_5 : Option Addr) (c0_5 : Nat) (l0_5 : List ByteArray) (a0_6 : Int) (a1_0 : Int) (a1_1 : ByteArray) (A1_2 : Option Addr) (c1_2 : Nat) (l1_2 : List ByteArray) (A1_3 : Option Addr) (c1_3 : Nat) (l1_3 : List ByteArray) (A1_4 : Option Addr) (c1_4 : Nat) (l1_4 : List ByteArray) (A1_5 : Option Addr) (c1_5 : Nat) (l1_5 : List ByteArray) (a1_6 : Int) (r : Bool) (w : World) (hr0_2 : Kd.C Kd.string w A0_2 l0_2.length l0_2) (hc0_2 : l0_2.length ≤ c0_2) (hr0_3 : Kd.C Kd.string w A0_3 l0_3.length l0_3) (hc0_3 : l0_3.length ≤ c0_3) (hr0_4 : Kd.C Kd.string w A0_4 l0_4.length l0_4) (hc0_4 : l0_4.length ≤ c0_4) (hr0_5 : Kd.C Kd.string w A0_5 l0_5.length l0_5) (hc0_5 : l0_5.length ≤ c0_5) (hr1_2 : Kd.C Kd.string w A1_2 l1_2.length l1_2) (hc1_2 : l1_2.length ≤ c1_2) (hr1_3 : Kd.C Kd.string w A1_3 l1_3.length l1_3) (hc1_3 : l1_3.length ≤ c1_3) (hr1_4 : Kd.C Kd.string w A1_4 l1_4.length l1_4) (hc1_4 : l1_4.length ≤ c1_4) (hr1_5 : Kd.C Kd.string w A1_5 l1_5.length l1_5) (hc1_5 : l1_5.length ≤ c1_5) (h : laws_FnExactSameLine.f k a0_0 a0_1 l0_2 l0_3 l0_4 l0_5 a0_6 a1_0 a1_1 l1_2 l1_3 l1_4 l1_5 a1_6 = some r) :
    Calls Try.prog 10 #[.agg #[.int .i64 a0_0, .string a0_1, .slice A0_2 l0_2.length c0_2, .slice A0_3 l0_3.length c0_3, .slice A0_4 l0_4.length c0_4, .slice A0_5 l0_5.length c0_5, .int .i64 a0_6], .agg #[.int .i64 a1_0, .string a1_1, .slice A1_2 l1_2.length c1_2, .slice A1_3 l1_3.length c1_3, .slice A1_4 l1_4.length c1_4, .slice A1_5 l1_5.length c1_5, .int .i64 a1_6]] w fun e w' => e = .returned (.bool r) ∧ Below w.heap.size w w' := by
  have hu50 := Try.underlying50
  have hu53 := Try.underlying53
  have HR0_2 := aM hr0_2
  have HC0_2 := aM hc0_2
  clear hr0_2 hc0_2
  have HR0_3 := aM hr0_3
  have HC0_3 := aM hc0_3
  clear hr0_3 hc0_3
  have HR0_4 := aM hr0_4
  have HC0_4 := aM hc0_4
  clear hr0_4 hc0_4
  have HR0_5 := aM hr0_5
  have HC0_5 := aM hc0_5
  clear hr0_5 hc0_5
  have HR1_2 := aM hr1_2
  have HC1_2 := aM hc1_2
  clear hr1_2 hc1_2
  have HR1_3 := aM hr1_3
  have HC1_3 := aM hc1_3
  clear hr1_3 hc1_3
  have HR1_4 := aM hr1_4
  have HC1_4 := aM hc1_4
  clear hr1_4 hc1_4
  have HR1_5 := aM hr1_5
  have HC1_5 := aM hc1_5
  clear hr1_5 hc1_5
  have HB := aM (Below.refl w.heap.size w)
  have H : ((laws_szFeatureLine.f k a0_0 a0_1 l0_2 l0_3 l0_4 l0_5 a0_6 1048576).bind fun t153 => (if t153 < 0 then (some true) else (laws_FnExactSameLine.j0 k t153 a0_0 a0_1 l0_2 l0_3 l0_4 l0_5 a0_6 a1_0 a1_1 l1_2 l1_3 l1_4 l1_5 a1_6))) = some r := h
  clear h
  replace H := Option.bind_eq_some_iff.mp H
  obtain ⟨t153, A30, H⟩ := H
  replace H : (if t153 < 0 then (some true) else (laws_FnExactSameLine.j0 k t153 a0_0 a0_1 l0_2 l0_3 l0_4 l0_5 a0_6 a1_0 a1_1 l1_2 l1_3 l1_4 l1_5 a1_6)) = some r := H
  have A3 := aM A30
  clear A30
  have HC4 := aM H
  clear H
  go_enter Try.func10, Try.ntmps10
  go_upto_if 14 with (first | ((with_reducible refine gate_dst (N := 2) rfl ?_); refine box_event ?hg (N := 2) ?hd (cs := #[.int .i64 a0_0, .string a0_1, .slice A0_2 l0_2.length c0_2, .slice A0_3 l0_3.length c0_3, .slice A0_4 l0_4.length c0_4, .slice A0_5 l0_5.length c0_5, .int .i64 a0_6]) (t := 50) ?hr ?_; (case hd => rfl); (case hg => rfl); (case hr => first | (go_simp; done) | (go_simp; rfl)); intro gb151 hg w5 hbox hb; have n0_ := aM (below_step (by repeat (first | (with_reducible first | exact HB.out | apply below_alloc | apply pw_below_drewN | apply below_drew1) | exact HB.out)) hb); have n1_ := aM (hbox); have n2_ := aM ((by rw [hg]; exact (below_size (by repeat (first | (with_reducible first | exact HB.out | apply below_alloc | apply pw_below_drewN | apply below_drew1) | exact HB.out))) : w.heap.size ≤ gb151)); have n3_ := aM ((by rw [hg]; exact (below_size (by repeat (first | (with_reducible first | exact HB.out | apply below_alloc | apply pw_below_drewN | apply below_drew1) | exact HB.out))) : w.heap.size ≤ gb151)); clear HB; have HB := n0_; have BK151 := n1_; have GW151 := n2_; have GE151 := n3_; clear n0_ n1_ n2_ n3_; clear hb hbox hg) | ((with_reducible refine gate_dst (N := 3) rfl ?_); refine box_event ?hg (N := 3) ?hd (cs := #[.int .i64 a1_0, .string a1_1, .slice A1_2 l1_2.length c1_2, .slice A1_3 l1_3.length c1_3, .slice A1_4 l1_4.length c1_4, .slice A1_5 l1_5.length c1_5, .int .i64 a1_6]) (t := 50) ?hr ?_; (case hd => rfl); (case hg => rfl); (case hr => first | (go_simp; done) | (go_simp; rfl)); intro gb152 hg w6 hbox hb; have n0_ := aM (blk_below (g := gb151) (o := .cells #[.int .i64 a0_0, .string a0_1, .slice A0_2 l0_2.length c0_2, .slice A0_3 l0_3.length c0_3, .slice A0_4 l0_4.length c0_4, .slice A0_5 l0_5.length c0_5, .int .i64 a0_6] 50 (0, 0)) (by (with_reducible repeat (first | refine blk_drewN ?_ _ | refine blk_drew ?_ | refine blk_alloc ?_ _)); exact BK151.out) hb); have n1_ := aM (below_step (by repeat (first | (with_reducible first | exact HB.out | apply below_alloc | apply pw_below_drewN | apply below_drew1 | refine below_set ?_ GE151.out) | exact HB.out)) hb); have n2_ := aM (hbox); have n3_ := aM ((by rw [hg]; exact (below_size (by repeat (first | (with_reducible first | exact HB.out | apply below_alloc | apply pw_below_drewN | apply below_drew1 | refine below_set ?_ GE151.out) | exact HB.out))) : w.heap.size ≤ gb152)); have n4_ := aM ((by rw [hg]; exact (below_size (by repeat (first | (with_reducible first | exact HB.out | apply below_alloc | apply pw_below_drewN | apply below_drew1 | refine below_set ?_ GE151.out) | exact HB.out))) : w.heap.size ≤ gb152)); have n5_ := aM ((by rw [hg]; exact Nat.ne_of_lt (blk_lt (g := gb151) (o := .cells #[.int .i64 a0_0, .string a0_1, .slice A0_2 l0_2.length c0_2, .slice A0_3 l0_3.length c0_3, .slice A0_4 l0_4.length c0_4, .slice A0_5 l0_5.length c0_5, .int .i64 a0_6] 50 (0, 0)) (by (with_reducible repeat (first | refine blk_drewN ?_ _ | refine blk_drew ?_ | refine blk_alloc ?_ _)); exact BK151.out)) : gb151 ≠ gb152)); have n6_ := aM ((by rw [hg]; exact Nat.ne_of_gt (blk_lt (g := gb151) (o := .cells #[.int .i64 a0_0, .string a0_1, .slice A0_2 l0_2.length c0_2, .slice A0_3 l0_3.length c0_3, .slice A0_4 l0_4.length c0_4, .slice A0_5 l0_5.length c0_5, .int .i64 a0_6] 50 (0, 0)) (by (with_reducible repeat (first | refine blk_drewN ?_ _ | refine blk_drew ?_ | refine blk_alloc ?_ _)); exact BK151.out)) : gb152 ≠ gb151)); clear BK151; clear HB; have BK151 := n0_; have HB := n1_; have BK152 := n2_; have GW152 := n3_; have GE152 := n4_; have NB151_152 := n5_; have NB152_151 := n6_; clear n0_ n1_ n2_ n3_ n4_ n5_ n6_; clear hb hbox hg; have hnb7 := NB151_152.out; have hnc7 := NB152_151.out; have hcz8_0 : w6.cell? ⟨gb151, 0, none⟩ = some (.int .i64 a0_0) := (blk_cell BK151.out 0).trans rfl; have hcz8_1 : w6.cell? ⟨gb151, 1, none⟩ = some (.string a0_1) := (blk_cell BK151.out 1).trans rfl; have hcz8_2 : w6.cell? ⟨gb151, 2, none⟩ = some (.slice A0_2 l0_2.length c0_2) := (blk_cell BK151.out 2).trans rfl; have hcz8_3 : w6.cell? ⟨gb151, 3, none⟩ = some (.slice A0_3 l0_3.length c0_3) := (blk_cell BK151.out 3).trans rfl; have hcz8_4 : w6.cell? ⟨gb151, 4, none⟩ = some (.slice A0_4 l0_4.length c0_4) := (blk_cell BK151.out 4).trans rfl; have hcz8_5 : w6.cell? ⟨gb151, 5, none⟩ = some (.slice A0_5 l0_5.length c0_5) := (blk_cell BK151.out 5).trans rfl; have hcz8_6 : w6.cell? ⟨gb151, 6, none⟩ = some (.int .i64 a0_6) := (blk_cell BK151.out 6).trans rfl; have hfz8_0 := blk_frozen BK151.out 0; have hfz8_1 := blk_frozen BK151.out 1; have hfz8_2 := blk_frozen BK151.out 2; have hfz8_3 := blk_frozen BK151.out 3; have hfz8_4 := blk_frozen BK151.out 4; have hfz8_5 := blk_frozen BK151.out 5; have hfz8_6 := blk_frozen BK151.out 6) | ((with_reducible refine gate_callee (f := 40) rfl ?_); refine goesL_ (some 12) rfl rfl Try.func40 (by kernel_rfl) rfl #[.agg #[.int .i64 a0_0, .string a0_1, .slice A0_2 l0_2.length c0_2, .slice A0_3 l0_3.length c0_3, .slice A0_4 l0_4.length c0_4, .slice A0_5 l0_5.length c0_5, .int .i64 a0_6], .int .i64 1048576] rfl (by (try simp only [List.map_toArray, List.map_cons, List.map_nil]); first | done | rfl | (simp only [List.length_drop, List.length_take]; rfl)) ?_; (with_reducible refine (laws_szFeatureLine.calls k a0_0 a0_1 _ _ l0_2 _ _ l0_3 _ _ l0_4 _ _ l0_5 a0_6 1048576 t153 _ ?side1 ?side2 ?side3 ?side4 ?side5 ?side6 ?side7 ?side8 A3.out).mono ?_); (case side1 => repeat (first | exact (Kd.C_below HR0_2.out HB.out) | (with_reducible refine Kd.C_alloc ?_ _) | (with_reducible refine Kd.C_drewN ?_ _) | (with_reducible refine Kd.C_drew ?_))); (case side2 => exact HC0_2.out); (case side3 => repeat (first | exact (Kd.C_below HR0_3.out HB.out) | (with_reducible refine Kd.C_alloc ?_ _) | (with_reducible refine Kd.C_drewN ?_ _) | (with_reducible refine Kd.C_drew ?_))); (case side4 => exact HC0_3.out); (case side5 => repeat (first | exact (Kd.C_below HR0_4.out HB.out) | (with_reducible refine Kd.C_alloc ?_ _) | (with_reducible refine Kd.C_drewN ?_ _) | (with_reducible refine Kd.C_drew ?_))); (case side6 => exact HC0_4.out); (case side7 => repeat (first | exact (Kd.C_below HR0_5.out HB.out) | (with_reducible refine Kd.C_alloc ?_ _) | (with_reducible refine Kd.C_drewN ?_ _) | (with_reducible refine Kd.C_drew ?_))); (case side8 => exact HC0_5.out); rintro e w9 ⟨rfl, hb⟩; refine ⟨_, rfl, ?_⟩; have n0_ := aM (blk_below (g := gb151) (o := .cells #[.int .i64 a0_0, .string a0_1, .slice A0_2 l0_2.length c0_2, .slice A0_3 l0_3.length c0_3, .slice A0_4 l0_4.length c0_4, .slice A0_5 l0_5.length c0_5, .int .i64 a0_6] 50 (0, 0)) (by (with_reducible repeat (first | refine blk_drewN ?_ _ | refine blk_drew ?_ | refine blk_alloc ?_ _)); exact BK151.out) hb); have n1_ := aM (blk_below (g := gb152) (o := .cells #[.int .i64 a1_0, .string a1_1, .slice A1_2 l1_2.length c1_2, .slice A1_3 l1_3.length c1_3, .slice A1_4 l1_4.length c1_4, .slice A1_5 l1_5.length c1_5, .int .i64 a1_6] 50 (0, 0)) (by (with_reducible repeat (first | refine blk_drewN ?_ _ | refine blk_drew ?_ | refine blk_alloc ?_ _)); exact BK152.out) hb); have n2_ := aM (below_step (by repeat (first | (with_reducible first | exact HB.out | apply below_alloc | apply pw_below_drewN | apply below_drew1 | refine below_set ?_ GE151.out | refine below_set ?_ GE152.out) | exact HB.out)) hb); clear BK151; clear BK152; clear HB; have BK151 := n0_; have BK152 := n1_; have HB := n2_; clear n0_ n1_ n2_; (try clear hb); (try clear hb2); (try clear hk); (try clear hi)))
  (try simp only [Act.put, List.setIfInBounds_toArray, List.set_cons_zero, List.set_cons_succ])
  go_cut [] (fun wc => ∃ (kq : Nat), Aside0 (laws_FnExactSameLine.j0 kq t153 a0_0 a0_1 l0_2 l0_3 l0_4 l0_5 a0_6 a1_0 a1_1 l1_2 l1_3 l1_4 l1_5 a1_6 = some r) ∧ Aside0 (kq ≤ k) ∧ Aside0 (wc.heap[gb151]? = some (.cells #[.int .i64 a0_0, .string a0_1, (.slice A0_2 l0_2.length c0_2), (.slice A0_3 l0_3.length c0_3), (.slice A0_4 l0_4.length c0_4), (.slice A0_5 l0_5.length c0_5), .int .i64 a0_6] 50 (0, 0))) ∧ Aside0 (wc.heap[gb152]? = some (.cells #[.int .i64 a1_0, .string a1_1, (.slice A1_2 l1_2.length c1_2), (.slice A1_3 l1_3.length c1_3), (.slice A1_4 l1_4.length c1_4), (.slice A1_5 l1_5.length c1_5), .int .i64 a1_6] 50 (0, 0))) ∧ Aside0 (Below w.heap.size w wc))
  case first =>
    have H := HC4.out
    clear HC4
    by_cases c10 : t153 < 0
    · rw [if_pos c10] at H
      have c10b0 : decide (t153 < 0) = true := decide_eq_true c10
      clear c10
      (first | rw [c10b0] | (simp only [i64_w, i32_w]; rw [c10b0]) | rw [c10b1] | rw [c10b2] | rw [c10b3] | rw [c10b4] | skip)
      obtain rfl := Option.some.inj H
      go_wp2
      go_ret
      exact ⟨by first | rfl | (simp [errW_none, errW_some] <;> rfl) | (simp [*, errW_none, errW_some] <;> rfl), by repeat (first | (with_reducible first | exact HB.out | apply below_alloc | apply pw_below_drewN | apply below_drew1 | refine below_set ?_ GE151.out | refine below_set ?_ GE152.out) | exact HB.out)⟩
    · rw [if_neg c10] at H
      have c10b0 : decide (t153 < 0) = false := decide_eq_false c10
      clear c10
      (first | rw [c10b0] | (simp only [i64_w, i32_w]; rw [c10b0]) | rw [c10b1] | rw [c10b2] | rw [c10b3] | rw [c10b4] | skip)
      have H' := aM H
      clear H
      go_wp2
      go_meet
      case rel => exact ⟨_, H', ⟨by first | omega | exact Nat.le_refl _⟩, ⟨by (with_reducible repeat (first | refine blk_drewN ?_ _ | refine blk_drew ?_ | refine blk_alloc ?_ _)); exact BK151.out⟩, ⟨by (with_reducible repeat (first | refine blk_drewN ?_ _ | refine blk_drew ?_ | refine blk_alloc ?_ _)); exact BK152.out⟩, ⟨by repeat (first | (with_reducible first | exact HB.out | apply below_alloc | apply pw_below_drewN | apply below_drew1 | refine below_set ?_ GE151.out | refine below_set ?_ GE152.out) | exact HB.out)⟩⟩
  case rest =>
    clear HC4
    try clear c1
    try clear p2
    try clear c4
    try clear c7
    try clear c10
    try clear c10b0
    try clear c10b1
    try clear c10b2
    try clear hcz8_0
    try clear hcz8_1
    try clear hcz8_2
    try clear hcz8_3
    try clear hcz8_4
    try clear hcz8_5
    try clear hcz8_6
    try clear hfz8_0
    try clear hfz8_1
    try clear hfz8_2
    try clear hfz8_3
    try clear hfz8_4
    try clear hfz8_5
    try clear hfz8_6
    obtain ⟨kq, HA, HJ3, BK151, BK152, HB⟩ := hcut
    cases kq with
    | zero => exact absurd HA.out (by simp [laws_FnExactSameLine.j0])
    | succ kj3 =>
      have H := HA.out
      clear HA
      simp only [laws_FnExactSameLine.j0] at H
      replace H := Option.bind_eq_some_iff.mp H
      obtain ⟨t154, A110, H⟩ := H
      replace H : (if t154 < 0 then (some true) else (laws_FnExactSameLine.j1 kj3 a0_0 a0_1 l0_2 l0_3 l0_4 l0_5 a0_6 a1_0 a1_1 l1_2 l1_3 l1_4 l1_5 a1_6)) = some r := H
      have A11 := aM A110
      clear A110
      have HC12 := aM H
      clear H
      have hnb13 := NB152_151.out
      have hnc13 := NB151_152.out
      have hcz14_0 : wc.cell? ⟨gb152, 0, none⟩ = some (.int .i64 a1_0) := (blk_cell BK152.out 0).trans rfl
      have hcz14_1 : wc.cell? ⟨gb152, 1, none⟩ = some (.string a1_1) := (blk_cell BK152.out 1).trans rfl
      have hcz14_2 : wc.cell? ⟨gb152, 2, none⟩ = some (.slice A1_2 l1_2.length c1_2) := (blk_cell BK152.out 2).trans rfl
      have hcz14_3 : wc.cell? ⟨gb152, 3, none⟩ = some (.slice A1_3 l1_3.length c1_3) := (blk_cell BK152.out 3).trans rfl
      have hcz14_4 : wc.cell? ⟨gb152, 4, none⟩ = some (.slice A1_4 l1_4.length c1_4) := (blk_cell BK152.out 4).trans rfl
      have hcz14_5 : wc.cell? ⟨gb152, 5, none⟩ = some (.slice A1_5 l1_5.length c1_5) := (blk_cell BK152.out 5).trans rfl
      have hcz14_6 : wc.cell? ⟨gb152, 6, none⟩ = some (.int .i64 a1_6) := (blk_cell BK152.out 6).trans rfl
      have hfz14_0 := blk_frozen BK152.out 0
      have hfz14_1 := blk_frozen BK152.out 1
      have hfz14_2 := blk_frozen BK152.out 2
      have hfz14_3 := blk_frozen BK152.out 3
      have hfz14_4 := blk_frozen BK152.out 4
      have hfz14_5 := blk_frozen BK152.out 5
      have hfz14_6 := blk_frozen BK152.out 6
      go_upto_if 19 with (first | ((with_reducible refine gate_callee (f := 40) rfl ?_); refine goesL_ (some 17) rfl rfl Try.func40 (by kernel_rfl) rfl #[.agg #[.int .i64 a1_0, .string a1_1, .slice A1_2 l1_2.length c1_2, .slice A1_3 l1_3.length c1_3, .slice A1_4 l1_4.length c1_4, .slice A1_5 l1_5.length c1_5, .int .i64 a1_6], .int .i64 t153] rfl (by (try simp only [List.map_toArray, List.map_cons, List.map_nil]); first | done | rfl | (simp only [List.length_drop, List.length_take]; rfl)) ?_; (with_reducible refine (laws_szFeatureLine.calls kj3 a1_0 a1_1 _ _ l1_2 _ _ l1_3 _ _ l1_4 _ _ l1_5 a1_6 t153 t154 _ ?side1 ?side2 ?side3 ?side4 ?side5 ?side6 ?side7 ?side8 A11.out).mono ?_); (case side1 => repeat (first | exact (Kd.C_below HR1_2.out HB.out) | (with_reducible refine Kd.C_alloc ?_ _) | (with_reducible refine Kd.C_drewN ?_ _) | (with_reducible refine Kd.C_drew ?_))); (case side2 => exact HC1_2.out); (case side3 => repeat (first | exact (Kd.C_below HR1_3.out HB.out) | (with_reducible refine Kd.C_alloc ?_ _) | (with_reducible refine Kd.C_drewN ?_ _) | (with_reducible refine Kd.C_drew ?_))); (case side4 => exact HC1_3.out); (case side5 => repeat (first | exact (Kd.C_below HR1_4.out HB.out) | (with_reducible refine Kd.C_alloc ?_ _) | (with_reducible refine Kd.C_drewN ?_ _) | (with_reducible refine Kd.C_drew ?_))); (case side6 => exact HC1_4.out); (case side7 => repeat (first | exact (Kd.C_below HR1_5.out HB.out) | (with_reducible refine Kd.C_alloc ?_ _) | (with_reducible refine Kd.C_drewN ?_ _) | (with_reducible refine Kd.C_drew ?_))); (case side8 => exact HC1_5.out); rintro e w15 ⟨rfl, hb⟩; refine ⟨_, rfl, ?_⟩; have n0_ := aM (blk_below (g := gb151) (o := .cells #[.int .i64 a0_0, .string a0_1, .slice A0_2 l0_2.length c0_2, .slice A0_3 l0_3.length c0_3, .slice A0_4 l0_4.length c0_4, .slice A0_5 l0_5.length c0_5, .int .i64 a0_6] 50 (0, 0)) (by (with_reducible repeat (first | refine blk_drewN ?_ _ | refine blk_drew ?_ | refine blk_alloc ?_ _)); exact BK151.out) hb); have n1_ := aM (blk_below (g := gb152) (o := .cells #[.int .i64 a1_0, .string a1_1, .slice A1_2 l1_2.length c1_2, .slice A1_3 l1_3.length c1_3, .slice A1_4 l1_4.length c1_4, .slice A1_5 l1_5.length c1_5, .int .i64 a1_6] 50 (0, 0)) (by (with_reducible repeat (first | refine blk_drewN ?_ _ | refine blk_drew ?_ | refine blk_alloc ?_ _)); exact BK152.out) hb); have n2_ := aM (below_step (by repeat (first | (with_reducible first | exact HB.out | apply below_alloc | apply pw_below_drewN | apply below_drew1 | refine below_set ?_ GE151.out | refine below_set ?_ GE152.out) | exact HB.out)) hb); clear BK151; clear BK152; clear HB; have BK151 := n0_; have BK152 := n1_; have HB := n2_; clear n0_ n1_ n2_; (try clear hb); (try clear hb2); (try clear hk); (try clear hi)))
      (try simp only [Act.put, List.setIfInBounds_toArray, List.set_cons_zero, List.set_cons_succ])
      go_cut [] (fun wc => ∃ (kq : Nat), Aside0 (laws_FnExactSameLine.j1 kq a0_0 a0_1 l0_2 l0_3 l0_4 l0_5 a0_6 a1_0 a1_1 l1_2 l1_3 l1_4 l1_5 a1_6 = some r) ∧ Aside0 (kq ≤ kj3) ∧ Aside0 (wc.heap[gb151]? = some (.cells #[.int .i64 a0_0, .string a0_1, (.slice A0_2 l0_2.length c0_2), (.slice A0_3 l0_3.length c0_3), (.slice A0_4 l0_4.length c0_4), (.slice A0_5 l0_5.length c0_5), .int .i64 a0_6] 50 (0, 0))) ∧ Aside0 (wc.heap[gb152]? = some (.cells #[.int .i64 a1_0, .string a1_1, (.slice A1_2 l1_2.length c1_2), (.slice A1_3 l1_3.length c1_3), (.slice A1_4 l1_4.length c1_4), (.slice A1_5 l1_5.length c1_5), .int .i64 a1_6] 50 (0, 0))) ∧ Aside0 (Below w.heap.size w wc))
      case first =>
        have H := HC12.out
        clear HC12
        by_cases c16 : t154 < 0
        · rw [if_pos c16] at H
          have c16b0 : decide (t154 < 0) = true := decide_eq_true c16
          clear c16
          (first | rw [c16b0] | (simp only [i64_w, i32_w]; rw [c16b0]) | rw [c16b1] | rw [c16b2] | rw [c16b3] | rw [c16b4] | skip)
          obtain rfl := Option.some.inj H
          go_wp2
          go_ret
          exact ⟨by first | rfl | (simp [errW_none, errW_some] <;> rfl) | (simp [*, errW_none, errW_some] <;> rfl), by repeat (first | (with_reducible first | exact HB.out | apply below_alloc | apply pw_below_drewN | apply below_drew1 | refine below_set ?_ GE151.out | refine below_set ?_ GE152.out) | exact HB.out)⟩
        · rw [if_neg c16] at H
          have c16b0 : decide (t154 < 0) = false := decide_eq_false c16
          clear c16
          (first | rw [c16b0] | (simp only [i64_w, i32_w]; rw [c16b0]) | rw [c16b1] | rw [c16b2] | rw [c16b3] | rw [c16b4] | skip)
          have H' := aM H
          clear H
          go_wp2
          go_meet
          case rel => exact ⟨_, H', ⟨by have := HJ3.out; first | omega | exact Nat.le_refl _⟩, ⟨by (with_reducible repeat (first | refine blk_drewN ?_ _ | refine blk_drew ?_ | refine blk_alloc ?_ _)); exact BK151.out⟩, ⟨by (with_reducible repeat (first | refine blk_drewN ?_ _ | refine blk_drew ?_ | refine blk_alloc ?_ _)); exact BK152.out⟩, ⟨by repeat (first | (with_reducible first | exact HB.out | apply below_alloc | apply pw_below_drewN | apply below_drew1 | refine below_set ?_ GE151.out | refine below_set ?_ GE152.out) | exact HB.out)⟩⟩
      case rest =>
        clear HC12
        try clear c1
        try clear p2
        try clear c4
        try clear c7
        try clear c10
        try clear c10b0
        try clear c10b1
        try clear c10b2
        try clear c13
        try clear c16
        try clear c16b0
        try clear c16b1
        try clear c16b2
        try clear hcz14_0
        try clear hcz14_1
        try clear hcz14_2
        try clear hcz14_3
        try clear hcz14_4
        try clear hcz14_5
        try clear hcz14_6
        try clear hcz8_0
        try clear hcz8_1
        try clear hcz8_2
        try clear hcz8_3
        try clear hcz8_4
        try clear hcz8_5
        try clear hcz8_6
        try clear hfz14_0
        try clear hfz14_1
        try clear hfz14_2
        try clear hfz14_3
        try clear hfz14_4
        try clear hfz14_5
        try clear hfz14_6
        try clear hfz8_0
        try clear hfz8_1
        try clear hfz8_2
        try clear hfz8_3
        try clear hfz8_4
        try clear hfz8_5
        try clear hfz8_6
        try clear p2
        obtain ⟨kq, HA, HJ11, BK151, BK152, HB⟩ := hcut
        cases kq with
        | zero => exact absurd HA.out (by simp [laws_FnExactSameLine.j1])
        | succ kj11 =>
          have H := HA.out
          clear HA
          simp only [laws_FnExactSameLine.j1] at H
          replace H := Option.bind_eq_some_iff.mp H
          obtain ⟨⟨t155, t156, t157, t160, t163, t166, t169⟩, A170, H⟩ := H
          replace H : ((laws_toFeatureLine.f kj11 a1_0 a1_1 l1_2 l1_3 l1_4 l1_5 a1_6).bind fun bt170 => ((spec_SameLine.f kj11 t155 t156 t157 t160 t163 t166 t169 bt170.1 bt170.2.1 bt170.2.2.1 bt170.2.2.2.1 bt170.2.2.2.2.1 bt170.2.2.2.2.2.1 bt170.2.2.2.2.2.2).bind fun t185 => ((laws_toFeatureLine.f kj11 a0_0 a0_1 l0_2 l0_3 l0_4 l0_5 a0_6).bind fun bt186 => ((laws_toFeatureLine.f kj11 a1_0 a1_1 l1_2 l1_3 l1_4 l1_5 a1_6).bind fun bt202 => ((impl_SameLine.f kj11 bt186.1 bt186.2.1 bt186.2.2.1 bt186.2.2.2.1 bt186.2.2.2.2.1 bt186.2.2.2.2.2.1 bt186.2.2.2.2.2.2 bt202.1 bt202.2.1 bt202.2.2.1 bt202.2.2.2.1 bt202.2.2.2.2.1 bt202.2.2.2.2.2.1 bt202.2.2.2.2.2.2).bind fun t218 => (if (t218 != t185) = true then (some false) else (laws_FnExactSameLine.j2 kj11 a0_0 a0_1 l0_2 l0_3 l0_4 l0_5 a0_6 a1_0 a1_1 l1_2 l1_3 l1_4 l1_5 a1_6 bt186.1 bt186.2.1 bt186.2.2.1 bt186.2.2.2.1 bt186.2.2.2.2.1 bt186.2.2.2.2.2.1 bt186.2.2.2.2.2.2 bt202.1 bt202.2.1 bt202.2.2.1 bt202.2.2.2.1 bt202.2.2.2.2.1 bt202.2.2.2.2.2.1 bt202.2.2.2.2.2.2))))))) = some r := H
          have A17 := aM A170
          clear A170
          replace H := Option.bind_eq_some_iff.mp H
          obtain ⟨⟨t170, t171, t172, t175, t178, t181, t184⟩, A180, H⟩ := H
          replace H : ((spec_SameLine.f kj11 t155 t156 t157 t160 t163 t166 t169 t170 t171 t172 t175 t178 t181 t184).bind fun t185 => ((laws_toFeatureLine.f kj11 a0_0 a0_1 l0_2 l0_3 l0_4 l0_5 a0_6).bind fun bt186 => ((laws_toFeatureLine.f kj11 a1_0 a1_1 l1_2 l1_3 l1_4 l1_5 a1_6).bind fun bt202 => ((impl_SameLine.f kj11 bt186.1 bt186.2.1 bt186.2.2.1 bt186.2.2.2.1 bt186.2.2.2.2.1 bt186.2.2.2.2.2.1 bt186.2.2.2.2.2.2 bt202.1 bt202.2.1 bt202.2.2.1 bt202.2.2.2.1 bt202.2.2.2.2.1 bt202.2.2.2.2.2.1 bt202.2.2.2.2.2.2).bind fun t218 => (if (t218 != t185) = true then (some false) else (laws_FnExactSameLine.j2 kj11 a0_0 a0_1 l0_2 l0_3 l0_4 l0_5 a0_6 a1_0 a1_1 l1_2 l1_3 l1_4 l1_5 a1_6 bt186.1 bt186.2.1 bt186.2.2.1 bt186.2.2.2.1 bt186.2.2.2.2.1 bt186.2.2.2.2.2.1 bt186.2.2.2.2.2.2 bt202.1 bt202.2.1 bt202.2.2.1 bt202.2.2.2.1 bt202.2.2.2.2.1 bt202.2.2.2.2.2.1 bt202.2.2.2.2.2.2)))))) = some r := H
          have A18 := aM A180
          clear A180
          replace H := Option.bind_eq_some_iff.mp H
          obtain ⟨t185, A190, H⟩ := H
          replace H : ((laws_toFeatureLine.f kj11 a0_0 a0_1 l0_2 l0_3 l0_4 l0_5 a0_6).bind fun bt186 => ((laws_toFeatureLine.f kj11 a1_0 a1_1 l1_2 l1_3 l1_4 l1_5 a1_6).bind fun bt202 => ((impl_SameLine.f kj11 bt186.1 bt186.2.1 bt186.2.2.1 bt186.2.2.2.1 bt186.2.2.2.2.1 bt186.2.2.2.2.2.1 bt186.2.2.2.2.2.2 bt202.1 bt202.2.1 bt202.2.2.1 bt202.2.2.2.1 bt202.2.2.2.2.1 bt202.2.2.2.2.2.1 bt202.2.2.2.2.2.2).bind fun t218 => (if (t218 != t185) = true then (some false) else (laws_FnExactSameLine.j2 kj11 a0_0 a0_1 l0_2 l0_3 l0_4 l0_5 a0_6 a1_0 a1_1 l1_2 l1_3 l1_4 l1_5 a1_6 bt186.1 bt186.2.1 bt186.2.2.1 bt186.2.2.2.1 bt186.2.2.2.2.1 bt186.2.2.2.2.2.1 bt186.2.2.2.2.2.2 bt202.1 bt202.2.1 bt202.2.2.1 bt202.2.2.2.1 bt202.2.2.2.2.1 bt202.2.2.2.2.2.1 bt202.2.2.2.2.2.2))))) = some r := H
          have A19 := aM A190
          clear A190
          replace H := Option.bind_eq_some_iff.mp H
          obtain ⟨⟨t186, t187, t188, t191, t194, t197, t200⟩, A200, H⟩ := H
          replace H : ((laws_toFeatureLine.f kj11 a1_0 a1_1 l1_2 l1_3 l1_4 l1_5 a1_6).bind fun bt202 => ((impl_SameLine.f kj11 t186 t187 t188 t191 t194 t197 t200 bt202.1 bt202.2.1 bt202.2.2.1 bt202.2.2.2.1 bt202.2.2.2.2.1 bt202.2.2.2.2.2.1 bt202.2.2.2.2.2.2).bind fun t218 => (if (t218 != t185) = true then (some false) else (laws_FnExactSameLine.j2 kj11 a0_0 a0_1 l0_2 l0_3 l0_4 l0_5 a0_6 a1_0 a1_1 l1_2 l1_3 l1_4 l1_5 a1_6 t186 t187 t188 t191 t194 t197 t200 bt202.1 bt202.2.1 bt202.2.2.1 bt202.2.2.2.1 bt202.2.2.2.2.1 bt202.2.2.2.2.2.1 bt202.2.2.2.2.2.2)))) = some r := H
          have A20 := aM A200
          clear A200
          replace H := Option.bind_eq_some_iff.mp H
          obtain ⟨⟨t202, t203, t204, t207, t210, t213, t216⟩, A210, H⟩ := H
          replace H : ((impl_SameLine.f kj11 t186 t187 t188 t191 t194 t197 t200 t202 t203 t204 t207 t210 t213 t216).bind fun t218 => (if (t218 != t185) = true then (some false) else (laws_FnExactSameLine.j2 kj11 a0_0 a0_1 l0_2 l0_3 l0_4 l0_5 a0_6 a1_0 a1_1 l1_2 l1_3 l1_4 l1_5 a1_6 t186 t187 t188 t191 t194 t197 t200 t202 t203 t204 t207 t210 t213 t216))) = some r := H
          have A21 := aM A210
          clear A210
          replace H := Option.bind_eq_some_iff.mp H
          obtain ⟨t218, A220, H⟩ := H
          replace H : (if (t218 != t185) = true then (some false) else (laws_FnExactSameLine.j2 kj11 a0_0 a0_1 l0_2 l0_3 l0_4 l0_5 a0_6 a1_0 a1_1 l1_2 l1_3 l1_4 l1_5 a1_6 t186 t187 t188 t191 t194 t197 t200 t202 t203 t204 t207 t210 t213 t216)) = some r := H
          have A22 := aM A220
          clear A220
          have HC23 := aM H
          clear H
          try go_wp2
          have n0_ := aM (blk_drew BK151.out)
          have n1_ := aM (blk_drew BK152.out)
          have n2_ := aM (below_drew1 HB.out)
          clear BK151
          clear BK152
          clear HB
          have BK151 := n0_
          have BK152 := n1_
          have HB := n2_
          clear n0_ n1_ n2_
          refine start_ (n := 6) (S := fun w' => w'.cell? ⟨gb151, 0, none⟩ = some (.int .i64 a0_0) ∧ w'.cell? ⟨gb151, 1, none⟩ = some (.string a0_1) ∧ w'.cell? ⟨gb151, 2, none⟩ = some (.slice A0_2 l0_2.length c0_2) ∧ w'.cell? ⟨gb151, 3, none⟩ = some (.slice A0_3 l0_3.length c0_3) ∧ w'.cell? ⟨gb151, 4, none⟩ = some (.slice A0_4 l0_4.length c0_4) ∧ w'.cell? ⟨gb151, 5, none⟩ = some (.slice A0_5 l0_5.length c0_5) ∧ w'.cell? ⟨gb151, 6, none⟩ = some (.int .i64 a0_6) ∧ w'.cell? ⟨gb152, 0, none⟩ = some (.int .i64 a1_0) ∧ w'.cell? ⟨gb152, 1, none⟩ = some (.string a1_1) ∧ w'.cell? ⟨gb152, 2, none⟩ = some (.slice A1_2 l1_2.length c1_2) ∧ w'.cell? ⟨gb152, 3, none⟩ = some (.slice A1_3 l1_3.length c1_3) ∧ w'.cell? ⟨gb152, 4, none⟩ = some (.slice A1_4 l1_4.length c1_4) ∧ w'.cell? ⟨gb152, 5, none⟩ = some (.slice A1_5 l1_5.length c1_5) ∧ w'.cell? ⟨gb152, 6, none⟩ = some (.int .i64 a1_6)) (ds := []) #[false, false, false, false, false, false] (by kernel_rfl) rfl rfl ⟨(blk_cell BK151.out 0).trans rfl, (blk_cell BK151.out 1).trans rfl, (blk_cell BK151.out 2).trans rfl, (blk_cell BK151.out 3).trans rfl, (blk_cell BK151.out 4).trans rfl, (blk_cell BK151.out 5).trans rfl, (blk_cell BK151.out 6).trans rfl, (blk_cell BK152.out 0).trans rfl, (blk_cell BK152.out 1).trans rfl, (blk_cell BK152.out 2).trans rfl, (blk_cell BK152.out 3).trans rfl, (blk_cell BK152.out 4).trans rfl, (blk_cell BK152.out 5).trans rfl, (blk_cell BK152.out 6).trans rfl⟩ (fun hHeld => ?_)
          generalize wc.drew = w24 at BK151 BK152 HB hHeld ⊢
          refine take_ (i := 0) (N := some 20) (v := ?_) (a' := ?_) #[true, false, false, false, false, false] rfl rfl (by kernel_rfl) (fun _ _ _ h => h) (Or.inl ⟨by rfl, ?_⟩) hHeld ?_ ?_
          rotate_left
          · rintro w' ⟨s0, s1, s2, s3, s4, s5, s6, s7, s8, s9, s10, s11, s12, s13⟩
            go_simp
            with_reducible rfl
          rotate_left
          · simp only [Act.put, List.setIfInBounds_toArray, List.set_cons_zero, List.set_cons_succ, i64_w, i32_w]
            rfl
          refine take_ (i := 2) (N := some 22) (v := ?_) (a' := ?_) #[true, false, true, false, false, false] rfl rfl (by kernel_rfl) (fun _ _ _ h => h) (Or.inl ⟨by rfl, ?_⟩) hHeld ?_ ?_
          rotate_left
          · rintro w' ⟨s0, s1, s2, s3, s4, s5, s6, s7, s8, s9, s10, s11, s12, s13⟩
            go_simp
            with_reducible rfl
          rotate_left
          · simp only [Act.put, List.setIfInBounds_toArray, List.set_cons_zero, List.set_cons_succ, i64_w, i32_w]
            rfl
          refine one_ (i := 1) (N := some 21) #[true, true, true, false, false, false] rfl rfl (by kernel_rfl) (by decide) (fun K hK => ?_)
          refine goes_ Try.func42 (by kernel_rfl) rfl #[.agg #[.int .i64 a0_0, .string a0_1, .slice A0_2 l0_2.length c0_2, .slice A0_3 l0_3.length c0_3, .slice A0_4 l0_4.length c0_4, .slice A0_5 l0_5.length c0_5, .int .i64 a0_6]] (by rfl) rfl rfl (by (try simp only [List.map_toArray, List.map_cons, List.map_nil]); first | done | rfl | (simp only [List.length_drop, List.length_take]; rfl)) ?_
          with_reducible refine (laws_toFeatureLine.calls kj11 a0_0 a0_1 _ _ l0_2 _ _ l0_3 _ _ l0_4 _ _ l0_5 a0_6 t155 t156 t157 t160 t163 t166 t169 _ ?side1 ?side2 ?side3 ?side4 ?side5 ?side6 ?side7 ?side8 A17.out).mono ?_
          (case side1 => repeat (first | exact (Kd.C_below HR0_2.out HB.out) | (with_reducible refine Kd.C_alloc ?_ _) | (with_reducible refine Kd.C_drewN ?_ _) | (with_reducible refine Kd.C_drew ?_)))
          (case side2 => exact HC0_2.out)
          (case side3 => repeat (first | exact (Kd.C_below HR0_3.out HB.out) | (with_reducible refine Kd.C_alloc ?_ _) | (with_reducible refine Kd.C_drewN ?_ _) | (with_reducible refine Kd.C_drew ?_)))
          (case side4 => exact HC0_3.out)
          (case side5 => repeat (first | exact (Kd.C_below HR0_4.out HB.out) | (with_reducible refine Kd.C_alloc ?_ _) | (with_reducible refine Kd.C_drewN ?_ _) | (with_reducible refine Kd.C_drew ?_)))
          (case side6 => exact HC0_4.out)
          (case side7 => repeat (first | exact (Kd.C_below HR0_5.out HB.out) | (with_reducible refine Kd.C_alloc ?_ _) | (with_reducible refine Kd.C_drewN ?_ _) | (with_reducible refine Kd.C_drew ?_)))
          (case side8 => exact HC0_5.out)
          rintro e w25 ⟨v158, v161, v164, v167, rfl, ho0, ho1, ho2, ho3, hb⟩
          refine ⟨_, rfl, ?_⟩
          have n0_ := aM (Kd.R_lower ho0 (below_size (by repeat (first | (with_reducible first | exact HB.out | apply below_alloc | apply pw_below_drewN | apply below_drew1 | refine below_set ?_ GE151.out | refine below_set ?_ GE152.out) | exact HB.out))))
          have n1_ := aM (Kd.R_lower ho1 (below_size (by repeat (first | (with_reducible first | exact HB.out | apply below_alloc | apply pw_below_drewN | apply below_drew1 | refine below_set ?_ GE151.out | refine below_set ?_ GE152.out) | exact HB.out))))
          have n2_ := aM (Kd.R_lower ho2 (below_size (by repeat (first | (with_reducible first | exact HB.out | apply below_alloc | apply pw_below_drewN | apply below_drew1 | refine below_set ?_ GE151.out | refine below_set ?_ GE152.out) | exact HB.out))))
          have n3_ := aM (Kd.R_lower ho3 (below_size (by repeat (first | (with_reducible first | exact HB.out | apply below_alloc | apply pw_below_drewN | apply below_drew1 | refine below_set ?_ GE151.out | refine below_set ?_ GE152.out) | exact HB.out))))
          have n4_ := aM (blk_below (g := gb151) (o := .cells #[.int .i64 a0_0, .string a0_1, .slice A0_2 l0_2.length c0_2, .slice A0_3 l0_3.length c0_3, .slice A0_4 l0_4.length c0_4, .slice A0_5 l0_5.length c0_5, .int .i64 a0_6] 50 (0, 0)) (by (with_reducible repeat (first | refine blk_drewN ?_ _ | refine blk_drew ?_ | refine blk_alloc ?_ _)); exact BK151.out) hb)
          have n5_ := aM (blk_below (g := gb152) (o := .cells #[.int .i64 a1_0, .string a1_1, .slice A1_2 l1_2.length c1_2, .slice A1_3 l1_3.length c1_3, .slice A1_4 l1_4.length c1_4, .slice A1_5 l1_5.length c1_5, .int .i64 a1_6] 50 (0, 0)) (by (with_reducible repeat (first | refine blk_drewN ?_ _ | refine blk_drew ?_ | refine blk_alloc ?_ _)); exact BK152.out) hb)
          have n6_ := aM (below_step (by repeat (first | (with_reducible first | exact HB.out | apply below_alloc | apply pw_below_drewN | apply below_drew1 | refine below_set ?_ GE151.out | refine below_set ?_ GE152.out) | exact HB.out)) hb)
          clear BK151
          clear BK152
          clear HB
          have HO159 := n0_
          have HO162 := n1_
          have HO165 := n2_
          have HO168 := n3_
          have BK151 := n4_
          have BK152 := n5_
          have HB := n6_
          clear n0_ n1_ n2_ n3_ n4_ n5_ n6_
          (try clear hb)
          (try clear hb2)
          (try clear hk)
          (try clear hi)
          (try clear ho0)
          (try clear ho1)
          (try clear ho2)
          (try clear ho3)
          refine hK.out _ _ ⟨(blk_cell BK151.out 0).trans rfl, (blk_cell BK151.out 1).trans rfl, (blk_cell BK151.out 2).trans rfl, (blk_cell BK151.out 3).trans rfl, (blk_cell BK151.out 4).trans rfl, (blk_cell BK151.out 5).trans rfl, (blk_cell BK151.out 6).trans rfl, (blk_cell BK152.out 0).trans rfl, (blk_cell BK152.out 1).trans rfl, (blk_cell BK152.out 2).trans rfl, (blk_cell BK152.out 3).trans rfl, (blk_cell BK152.out 4).trans rfl, (blk_cell BK152.out 5).trans rfl, (blk_cell BK152.out 6).trans rfl⟩ (fun hHeld => ?_)
          clear hK K
          refine norm_ (a' := ?_) ?_ ?_
          rotate_left
          · show Act.put _ (some 21) _ = _
            simp only [Act.put, List.setIfInBounds_toArray, List.set_cons_zero, List.set_cons_succ, i64_w, i32_w]
            rfl
          refine one_ (i := 3) (N := some 23) #[true, true, true, true, false, false] rfl rfl (by kernel_rfl) (by decide) (fun K hK => ?_)
          refine goes_ Try.func42 (by kernel_rfl) rfl #[.agg #[.int .i64 a1_0, .string a1_1, .slice A1_2 l1_2.length c1_2, .slice A1_3 l1_3.length c1_3, .slice A1_4 l1_4.length c1_4, .slice A1_5 l1_5.length c1_5, .int .i64 a1_6]] (by rfl) rfl rfl (by (try simp only [List.map_toArray, List.map_cons, List.map_nil]); first | done | rfl | (simp only [List.length_drop, List.length_take]; rfl)) ?_
          with_reducible refine (laws_toFeatureLine.calls kj11 a1_0 a1_1 _ _ l1_2 _ _ l1_3 _ _ l1_4 _ _ l1_5 a1_6 t170 t171 t172 t175 t178 t181 t184 _ ?side1 ?side2 ?side3 ?side4 ?side5 ?side6 ?side7 ?side8 A18.out).mono ?_
          (case side1 => repeat (first | exact (Kd.C_below HR1_2.out HB.out) | (with_reducible refine Kd.C_alloc ?_ _) | (with_reducible refine Kd.C_drewN ?_ _) | (with_reducible refine Kd.C_drew ?_)))
          (case side2 => exact HC1_2.out)
          (case side3 => repeat (first | exact (Kd.C_below HR1_3.out HB.out) | (with_reducible refine Kd.C_alloc ?_ _) | (with_reducible refine Kd.C_drewN ?_ _) | (with_reducible refine Kd.C_drew ?_)))
          (case side4 => exact HC1_3.out)
          (case side5 => repeat (first | exact (Kd.C_below HR1_4.out HB.out) | (with_reducible refine Kd.C_alloc ?_ _) | (with_reducible refine Kd.C_drewN ?_ _) | (with_reducible refine Kd.C_drew ?_)))
          (case side6 => exact HC1_4.out)
          (case side7 => repeat (first | exact (Kd.C_below HR1_5.out HB.out) | (with_reducible refine Kd.C_alloc ?_ _) | (with_reducible refine Kd.C_drewN ?_ _) | (with_reducible refine Kd.C_drew ?_)))
          (case side8 => exact HC1_5.out)
          rintro e w26 ⟨v173, v176, v179, v182, rfl, ho0, ho1, ho2, ho3, hb⟩
          refine ⟨_, rfl, ?_⟩
          have n0_ := aM (Kd.R_mono (Kd.R_told (Kd.R_told (Kd.R_told (Kd.R_told (Kd.R_old (by (with_reducible repeat (first | apply rA | apply rN | apply rD)); exact HO159.out) hb) (Kd.R_base ho0)) (Kd.R_base ho1)) (Kd.R_base ho2)) (Kd.R_base ho3)) h1_)
          have n1_ := aM (Kd.R_mono (Kd.R_told (Kd.R_told (Kd.R_told (Kd.R_told (Kd.R_old (by (with_reducible repeat (first | apply rA | apply rN | apply rD)); exact HO162.out) hb) (Kd.R_base ho0)) (Kd.R_base ho1)) (Kd.R_base ho2)) (Kd.R_base ho3)) h1_)
          have n2_ := aM (Kd.R_mono (Kd.R_told (Kd.R_told (Kd.R_told (Kd.R_told (Kd.R_old (by (with_reducible repeat (first | apply rA | apply rN | apply rD)); exact HO165.out) hb) (Kd.R_base ho0)) (Kd.R_base ho1)) (Kd.R_base ho2)) (Kd.R_base ho3)) h1_)
          have n3_ := aM (Kd.R_mono (Kd.R_told (Kd.R_told (Kd.R_told (Kd.R_told (Kd.R_old (by (with_reducible repeat (first | apply rA | apply rN | apply rD)); exact HO168.out) hb) (Kd.R_base ho0)) (Kd.R_base ho1)) (Kd.R_base ho2)) (Kd.R_base ho3)) h1_)
          have n4_ := aM (Kd.R_lower (Kd.R_new' (Kd.R_new' (Kd.R_new' (Kd.R_new' ho0 (Kd.R_lt (by (with_reducible repeat (first | apply rA | apply rN | apply rD)); exact HO159.out))) (Kd.R_lt (by (with_reducible repeat (first | apply rA | apply rN | apply rD)); exact HO162.out))) (Kd.R_lt (by (with_reducible repeat (first | apply rA | apply rN | apply rD)); exact HO165.out))) (Kd.R_lt (by (with_reducible repeat (first | apply rA | apply rN | apply rD)); exact HO168.out))) (below_size (by repeat (first | (with_reducible first | exact HB.out | apply below_alloc | apply pw_below_drewN | apply below_drew1 | refine below_set ?_ GE151.out | refine below_set ?_ GE152.out) | exact HB.out))))
          have n5_ := aM (Kd.R_lower (Kd.R_new' (Kd.R_new' (Kd.R_new' (Kd.R_new' ho1 (Kd.R_lt (by (with_reducible repeat (first | apply rA | apply rN | apply rD)); exact HO159.out))) (Kd.R_lt (by (with_reducible repeat (first | apply rA | apply rN | apply rD)); exact HO162.out))) (Kd.R_lt (by (with_reducible repeat (first | apply rA | apply rN | apply rD)); exact HO165.out))) (Kd.R_lt (by (with_reducible repeat (first | apply rA | apply rN | apply rD)); exact HO168.out))) (below_size (by repeat (first | (with_reducible first | exact HB.out | apply below_alloc | apply pw_below_drewN | apply below_drew1 | refine below_set ?_ GE151.out | refine below_set ?_ GE152.out) | exact HB.out))))
          have n6_ := aM (Kd.R_lower (Kd.R_new' (Kd.R_new' (Kd.R_new' (Kd.R_new' ho2 (Kd.R_lt (by (with_reducible repeat (first | apply rA | apply rN | apply rD)); exact HO159.out))) (Kd.R_lt (by (with_reducible repeat (first | apply rA | apply rN | apply rD)); exact HO162.out))) (Kd.R_lt (by (with_reducible repeat (first | apply rA | apply rN | apply rD)); exact HO165.out))) (Kd.R_lt (by (with_reducible repeat (first | apply rA | apply rN | apply rD)); exact HO168.out))) (below_size (by repeat (first | (with_reducible first | exact HB.out | apply below_alloc | apply pw_below_drewN | apply below_drew1 | refine below_set ?_ GE151.out | refine below_set ?_ GE152.out) | exact HB.out))))
          have n7_ := aM (Kd.R_lower (Kd.R_new' (Kd.R_new' (Kd.R_new' (Kd.R_new' ho3 (Kd.R_lt (by (with_reducible repeat (first | apply rA | apply rN | apply rD)); exact HO159.out))) (Kd.R_lt (by (with_reducible repeat (first | apply rA | apply rN | apply rD)); exact HO162.out))) (Kd.R_lt (by (with_reducible repeat (first | apply rA | apply rN | apply rD)); exact HO165.out))) (Kd.R_lt (by (with_reducible repeat (first | apply rA | apply rN | apply rD)); exact HO168.out))) (below_size (by repeat (first | (with_reducible first | exact HB.out | apply below_alloc | apply pw_below_drewN | apply below_drew1 | refine below_set ?_ GE151.out | refine below_set ?_ GE152.out) | exact HB.out))))
          have n8_ := aM (blk_below (g := gb151) (o := .cells #[.int .i64 a0_0, .string a0_1, .slice A0_2 l0_2.length c0_2, .slice A0_3 l0_3.length c0_3, .slice A0_4 l0_4.length c0_4, .slice A0_5 l0_5.length c0_5, .int .i64 a0_6] 50 (0, 0)) (by (with_reducible repeat (first | refine blk_drewN ?_ _ | refine blk_drew ?_ | refine blk_alloc ?_ _)); exact BK151.out) hb)
          have n9_ := aM (blk_below (g := gb152) (o := .cells #[.int .i64 a1_0, .string a1_1, .slice A1_2 l1_2.length c1_2, .slice A1_3 l1_3.length c1_3, .slice A1_4 l1_4.length c1_4, .slice A1_5 l1_5.length c1_5, .int .i64 a1_6] 50 (0, 0)) (by (with_reducible repeat (first | refine blk_drewN ?_ _ | refine blk_drew ?_ | refine blk_alloc ?_ _)); exact BK152.out) hb)
          have n10_ := aM (below_step (by repeat (first | (with_reducible first | exact HB.out | apply below_alloc | apply pw_below_drewN | apply below_drew1 | refine below_set ?_ GE151.out | refine below_set ?_ GE152.out) | exact HB.out)) hb)
          clear HO159
          clear HO162
          clear HO165
          clear HO168
          clear BK151
          clear BK152
          clear HB
          have HO159 := n0_
          have HO162 := n1_
          have HO165 := n2_
          have HO168 := n3_
          have HO174 := n4_
          have HO177 := n5_
          have HO180 := n6_
          have HO183 := n7_
          have BK151 := n8_
          have BK152 := n9_
          have HB := n10_
          clear n0_ n1_ n2_ n3_ n4_ n5_ n6_ n7_ n8_ n9_ n10_
          (try clear hb)
          (try clear hb2)
          (try clear hk)
          (try clear hi)
          (try clear ho0)
          (try clear ho1)
          (try clear ho2)
          (try clear ho3)
          obtain ⟨Ao27, co27, eo27⟩ := Kd.R_slice HO159.out
          (first | subst eo27 | (injection eo27 with f1_ f2_ f3_; have f4_ := f1_.symm; have f5_ := f3_.symm; clear f1_ f2_ f3_; subst f4_; subst f5_))
          obtain ⟨Ao28, co28, eo28⟩ := Kd.R_slice HO162.out
          (first | subst eo28 | (injection eo28 with f1_ f2_ f3_; have f4_ := f1_.symm; have f5_ := f3_.symm; clear f1_ f2_ f3_; subst f4_; subst f5_))
          obtain ⟨Ao29, co29, eo29⟩ := Kd.R_slice HO165.out
          (first | subst eo29 | (injection eo29 with f1_ f2_ f3_; have f4_ := f1_.symm; have f5_ := f3_.symm; clear f1_ f2_ f3_; subst f4_; subst f5_))
          obtain ⟨Ao30, co30, eo30⟩ := Kd.R_slice HO168.out
          (first | subst eo30 | (injection eo30 with f1_ f2_ f3_; have f4_ := f1_.symm; have f5_ := f3_.symm; clear f1_ f2_ f3_; subst f4_; subst f5_))
          obtain ⟨Ao31, co31, eo31⟩ := Kd.R_slice HO174.out
          (first | subst eo31 | (injection eo31 with f1_ f2_ f3_; have f4_ := f1_.symm; have f5_ := f3_.symm; clear f1_ f2_ f3_; subst f4_; subst f5_))
          obtain ⟨Ao32, co32, eo32⟩ := Kd.R_slice HO177.out
          (first | subst eo32 | (injection eo32 with f1_ f2_ f3_; have f4_ := f1_.symm; have f5_ := f3_.symm; clear f1_ f2_ f3_; subst f4_; subst f5_))
          obtain ⟨Ao33, co33, eo33⟩ := Kd.R_slice HO180.out
          (first | subst eo33 | (injection eo33 with f1_ f2_ f3_; have f4_ := f1_.symm; have f5_ := f3_.symm; clear f1_ f2_ f3_; subst f4_; subst f5_))
          obtain ⟨Ao34, co34, eo34⟩ := Kd.R_slice HO183.out
          (first | subst eo34 | (injection eo34 with f1_ f2_ f3_; have f4_ := f1_.symm; have f5_ := f3_.symm; clear f1_ f2_ f3_; subst f4_; subst f5_))
          refine hK.out _ _ ⟨(blk_cell BK151.out 0).trans rfl, (blk_cell BK151.out 1).trans rfl, (blk_cell BK151.out 2).trans rfl, (blk_cell BK151.out 3).trans rfl, (blk_cell BK151.out 4).trans rfl, (blk_cell BK151.out 5).trans rfl, (blk_cell BK151.out 6).trans rfl, (blk_cell BK152.out 0).trans rfl, (blk_cell BK152.out 1).trans rfl, (blk_cell BK152.out 2).trans rfl, (blk_cell BK152.out 3).trans rfl, (blk_cell BK152.out 4).trans rfl, (blk_cell BK152.out 5).trans rfl, (blk_cell BK152.out 6).trans rfl⟩ (fun hHeld => ?_)
          clear hK K
          refine norm_ (a' := ?_) ?_ ?_
          rotate_left
          · show Act.put _ (some 23) _ = _
            simp only [Act.put, List.setIfInBounds_toArray, List.set_cons_zero, List.set_cons_succ, i64_w, i32_w]
            rfl
          refine one_ (i := 4) (N := some 24) #[true, true, true, true, true, false] rfl rfl (by kernel_rfl) (by decide) (fun K hK => ?_)
          refine goes_ Try.func41 (by kernel_rfl) rfl #[.agg #[.int .i64 t155, .string t156, .slice Ao27 t157.length co27, .slice Ao28 t160.length co28, .slice Ao29 t163.length co29, .slice Ao30 t166.length co30, .int .i64 t169], .agg #[.int .i64 t170, .string t171, .slice Ao31 t172.length co31, .slice Ao32 t175.length co32, .slice Ao33 t178.length co33, .slice Ao34 t181.length co34, .int .i64 t184]] (by rfl) rfl rfl (by (try simp only [List.map_toArray, List.map_cons, List.map_nil]); first | done | rfl | (simp only [List.length_drop, List.length_take]; rfl)) ?_
          with_reducible refine (spec_SameLine.calls kj11 t155 t156 _ _ t157 _ _ t160 _ _ t163 _ _ t166 t169 t170 t171 _ _ t172 _ _ t175 _ _ t178 _ _ t181 t184 t185 _ ?side1 ?side2 ?side3 ?side4 ?side5 ?side6 ?side7 ?side8 ?side9 ?side10 ?side11 ?side12 ?side13 ?side14 ?side15 ?side16 A19.out).mono ?_
          (case side1 => repeat (first | exact (Kd.R_reads' HO159.out).2.2 | (with_reducible refine Kd.C_alloc ?_ _) | (with_reducible refine Kd.C_drewN ?_ _) | (with_reducible refine Kd.C_drew ?_)))
          (case side2 => exact (Kd.R_reads' HO159.out).2.1)
          (case side3 => repeat (first | exact (Kd.R_reads' HO162.out).2.2 | (with_reducible refine Kd.C_alloc ?_ _) | (with_reducible refine Kd.C_drewN ?_ _) | (with_reducible refine Kd.C_drew ?_)))
          (case side4 => exact (Kd.R_reads' HO162.out).2.1)
          (case side5 => repeat (first | exact (Kd.R_reads' HO165.out).2.2 | (with_reducible refine Kd.C_alloc ?_ _) | (with_reducible refine Kd.C_drewN ?_ _) | (with_reducible refine Kd.C_drew ?_)))
          (case side6 => exact (Kd.R_reads' HO165.out).2.1)
          (case side7 => repeat (first | exact (Kd.R_reads' HO168.out).2.2 | (with_reducible refine Kd.C_alloc ?_ _) | (with_reducible refine Kd.C_drewN ?_ _) | (with_reducible refine Kd.C_drew ?_)))
          (case side8 => exact (Kd.R_reads' HO168.out).2.1)
          (case side9 => repeat (first | exact (Kd.R_reads' HO174.out).2.2 | (with_reducible refine Kd.C_alloc ?_ _) | (with_reducible refine Kd.C_drewN ?_ _) | (with_reducible refine Kd.C_drew ?_)))
          (case side10 => exact (Kd.R_reads' HO174.out).2.1)
          (case side11 => repeat (first | exact (Kd.R_reads' HO177.out).2.2 | (with_reducible refine Kd.C_alloc ?_ _) | (with_reducible refine Kd.C_drewN ?_ _) | (with_reducible refine Kd.C_drew ?_)))
          (case side12 => exact (Kd.R_reads' HO177.out).2.1)
          (case side13 => repeat (first | exact (Kd.R_reads' HO180.out).2.2 | (with_reducible refine Kd.C_alloc ?_ _) | (with_reducible refine Kd.C_drewN ?_ _) | (with_reducible refine Kd.C_drew ?_)))
          (case side14 => exact (Kd.R_reads' HO180.out).2.1)
          (case side15 => repeat (first | exact (Kd.R_reads' HO183.out).2.2 | (with_reducible refine Kd.C_alloc ?_ _) | (with_reducible refine Kd.C_drewN ?_ _) | (with_reducible refine Kd.C_drew ?_)))
          (case side16 => exact (Kd.R_reads' HO183.out).2.1)
          rintro e w35 ⟨rfl, hb⟩
          refine ⟨_, rfl, ?_⟩
          have n0_ := aM (Kd.R_below (by (with_reducible repeat (first | apply rA | apply rN | apply rD)); exact HO159.out) hb)
          have n1_ := aM (Kd.R_below (by (with_reducible repeat (first | apply rA | apply rN | apply rD)); exact HO162.out) hb)
          have n2_ := aM (Kd.R_below (by (with_reducible repeat (first | apply rA | apply rN | apply rD)); exact HO165.out) hb)
          have n3_ := aM (Kd.R_below (by (with_reducible repeat (first | apply rA | apply rN | apply rD)); exact HO168.out) hb)
          have n4_ := aM (Kd.R_below (by (with_reducible repeat (first | apply rA | apply rN | apply rD)); exact HO174.out) hb)
          have n5_ := aM (Kd.R_below (by (with_reducible repeat (first | apply rA | apply rN | apply rD)); exact HO177.out) hb)
          have n6_ := aM (Kd.R_below (by (with_reducible repeat (first | apply rA | apply rN | apply rD)); exact HO180.out) hb)
          have n7_ := aM (Kd.R_below (by (with_reducible repeat (first | apply rA | apply rN | apply rD)); exact HO183.out) hb)
          have n8_ := aM (blk_below (g := gb151) (o := .cells #[.int .i64 a0_0, .string a0_1, .slice A0_2 l0_2.length c0_2, .slice A0_3 l0_3.length c0_3, .slice A0_4 l0_4.length c0_4, .slice A0_5 l0_5.length c0_5, .int .i64 a0_6] 50 (0, 0)) (by (with_reducible repeat (first | refine blk_drewN ?_ _ | refine blk_drew ?_ | refine blk_alloc ?_ _)); exact BK151.out) hb)
          have n9_ := aM (blk_below (g := gb152) (o := .cells #[.int .i64 a1_0, .string a1_1, .slice A1_2 l1_2.length c1_2, .slice A1_3 l1_3.length c1_3, .slice A1_4 l1_4.length c1_4, .slice A1_5 l1_5.length c1_5, .int .i64 a1_6] 50 (0, 0)) (by (with_reducible repeat (first | refine blk_drewN ?_ _ | refine blk_drew ?_ | refine blk_alloc ?_ _)); exact BK152.out) hb)
          have n10_ := aM (below_step (by repeat (first | (with_reducible first | exact HB.out | apply below_alloc | apply pw_below_drewN | apply below_drew1 | refine below_set ?_ GE151.out | refine below_set ?_ GE152.out) | exact HB.out)) hb)
          clear HO159
          clear HO162
          clear HO165
          clear HO168
          clear HO174
          clear HO177
          clear HO180
          clear HO183
          clear BK151
          clear BK152
          clear HB
          have HO159 := n0_
          have HO162 := n1_
          have HO165 := n2_
          have HO168 := n3_
          have HO174 := n4_
          have HO177 := n5_
          have HO180 := n6_
          have HO183 := n7_
          have BK151 := n8_
          have BK152 := n9_
          have HB := n10_
          clear n0_ n1_ n2_ n3_ n4_ n5_ n6_ n7_ n8_ n9_ n10_
          (try clear hb)
          (try clear hb2)
          (try clear hk)
          (try clear hi)
          refine hK.out _ _ ⟨(blk_cell BK151.out 0).trans rfl, (blk_cell BK151.out 1).trans rfl, (blk_cell BK151.out 2).trans rfl, (blk_cell BK151.out 3).trans rfl, (blk_cell BK151.out 4).trans rfl, (blk_cell BK151.out 5).trans rfl, (blk_cell BK151.out 6).trans rfl, (blk_cell BK152.out 0).trans rfl, (blk_cell BK152.out 1).trans rfl, (blk_cell BK152.out 2).trans rfl, (blk_cell BK152.out 3).trans rfl, (blk_cell BK152.out 4).trans rfl, (blk_cell BK152.out 5).trans rfl, (blk_cell BK152.out 6).trans rfl⟩ (fun hHeld => ?_)
          clear hK K
          refine norm_ (a' := ?_) ?_ ?_
          rotate_left
          · show Act.put _ (some 24) _ = _
            simp only [Act.put, List.setIfInBounds_toArray, List.set_cons_zero, List.set_cons_succ, i64_w, i32_w]
            rfl
          refine pure_ (i := 5) (N := some 6) (v := ?_) (a' := ?_) #[true, true, true, true, true, true] rfl rfl (by kernel_rfl) (fun _ _ _ h => h) (Or.inl ⟨by rfl, ?_⟩) ?_ ?_
          rotate_left
          · intro w'
            go_simp
            with_reducible rfl
          rotate_left
          · simp only [Act.put, List.setIfInBounds_toArray, List.set_cons_zero, List.set_cons_succ, i64_w, i32_w]
            rfl
          refine done_ (by kernel_rfl) ?_
          have hnb36 := NB151_152.out
          have hnc36 := NB152_151.out
          have hcz37_0 : w35.cell? ⟨gb151, 0, none⟩ = some (.int .i64 a0_0) := (blk_cell BK151.out 0).trans rfl
          have hcz37_1 : w35.cell? ⟨gb151, 1, none⟩ = some (.string a0_1) := (blk_cell BK151.out 1).trans rfl
          have hcz37_2 : w35.cell? ⟨gb151, 2, none⟩ = some (.slice A0_2 l0_2.length c0_2) := (blk_cell BK151.out 2).trans rfl
          have hcz37_3 : w35.cell? ⟨gb151, 3, none⟩ = some (.slice A0_3 l0_3.length c0_3) := (blk_cell BK151.out 3).trans rfl
          have hcz37_4 : w35.cell? ⟨gb151, 4, none⟩ = some (.slice A0_4 l0_4.length c0_4) := (blk_cell BK151.out 4).trans rfl
          have hcz37_5 : w35.cell? ⟨gb151, 5, none⟩ = some (.slice A0_5 l0_5.length c0_5) := (blk_cell BK151.out 5).trans rfl
          have hcz37_6 : w35.cell? ⟨gb151, 6, none⟩ = some (.int .i64 a0_6) := (blk_cell BK151.out 6).trans rfl
          have hfz37_0 := blk_frozen BK151.out 0
          have hfz37_1 := blk_frozen BK151.out 1
          have hfz37_2 := blk_frozen BK151.out 2
          have hfz37_3 := blk_frozen BK151.out 3
          have hfz37_4 := blk_frozen BK151.out 4
          have hfz37_5 := blk_frozen BK151.out 5
          have hfz37_6 := blk_frozen BK151.out 6
          go_upto_if 34 with (first | ((with_reducible refine gate_callee (f := 42) rfl ?_); refine goesL_ (some 26) rfl rfl Try.func42 (by kernel_rfl) rfl #[.agg #[.int .i64 a0_0, .string a0_1, .slice A0_2 l0_2.length c0_2, .slice A0_3 l0_3.length c0_3, .slice A0_4 l0_4.length c0_4, .slice A0_5 l0_5.length c0_5, .int .i64 a0_6]] rfl (by (try simp only [List.map_toArray, List.map_cons, List.map_nil]); first | done | rfl | (simp only [List.length_drop, List.length_take]; rfl)) ?_; (with_reducible refine (laws_toFeatureLine.calls kj11 a0_0 a0_1 _ _ l0_2 _ _ l0_3 _ _ l0_4 _ _ l0_5 a0_6 t186 t187 t188 t191 t194 t197 t200 _ ?side1 ?side2 ?side3 ?side4 ?side5 ?side6 ?side7 ?side8 A20.out).mono ?_); (case side1 => repeat (first | exact (Kd.C_below HR0_2.out HB.out) | (with_reducible refine Kd.C_alloc ?_ _) | (with_reducible refine Kd.C_drewN ?_ _) | (with_reducible refine Kd.C_drew ?_))); (case side2 => exact HC0_2.out); (case side3 => repeat (first | exact (Kd.C_below HR0_3.out HB.out) | (with_reducible refine Kd.C_alloc ?_ _) | (with_reducible refine Kd.C_drewN ?_ _) | (with_reducible refine Kd.C_drew ?_))); (case side4 => exact HC0_3.out); (case side5 => repeat (first | exact (Kd.C_below HR0_4.out HB.out) | (with_reducible refine Kd.C_alloc ?_ _) | (with_reducible refine Kd.C_drewN ?_ _) | (with_reducible refine Kd.C_drew ?_))); (case side6 => exact HC0_4.out); (case side7 => repeat (first | exact (Kd.C_below HR0_5.out HB.out) | (with_reducible refine Kd.C_alloc ?_ _) | (with_reducible refine Kd.C_drewN ?_ _) | (with_reducible refine Kd.C_drew ?_))); (case side8 => exact HC0_5.out); rintro e w38 ⟨v189, v192, v195, v198, rfl, ho0, ho1, ho2, ho3, hb⟩; refine ⟨_, rfl, ?_⟩; have n0_ := aM (Kd.R_mono (Kd.R_told (Kd.R_told (Kd.R_told (Kd.R_told (Kd.R_old (by (with_reducible repeat (first | apply rA | apply rN | apply rD)); exact HO159.out) hb) (Kd.R_base ho0)) (Kd.R_base ho1)) (Kd.R_base ho2)) (Kd.R_base ho3)) h1_); have n1_ := aM (Kd.R_mono (Kd.R_told (Kd.R_told (Kd.R_told (Kd.R_told (Kd.R_old (by (with_reducible repeat (first | apply rA | apply rN | apply rD)); exact HO162.out) hb) (Kd.R_base ho0)) (Kd.R_base ho1)) (Kd.R_base ho2)) (Kd.R_base ho3)) h1_); have n2_ := aM (Kd.R_mono (Kd.R_told (Kd.R_told (Kd.R_told (Kd.R_told (Kd.R_old (by (with_reducible repeat (first | apply rA | apply rN | apply rD)); exact HO165.out) hb) (Kd.R_base ho0)) (Kd.R_base ho1)) (Kd.R_base ho2)) (Kd.R_base ho3)) h1_); have n3_ := aM (Kd.R_mono (Kd.R_told (Kd.R_told (Kd.R_told (Kd.R_told (Kd.R_old (by (with_reducible repeat (first | apply rA | apply rN | apply rD)); exact HO168.out) hb) (Kd.R_base ho0)) (Kd.R_base ho1)) (Kd.R_base ho2)) (Kd.R_base ho3)) h1_); have n4_ := aM (Kd.R_mono (Kd.R_told (Kd.R_told (Kd.R_told (Kd.R_told (Kd.R_old (by (with_reducible repeat (first | apply rA | apply rN | apply rD)); exact HO174.out) hb) (Kd.R_base ho0)) (Kd.R_base ho1)) (Kd.R_base ho2)) (Kd.R_base ho3)) h1_); have n5_ := aM (Kd.R_mono (Kd.R_told (Kd.R_told (Kd.R_told (Kd.R_told (Kd.R_old (by (with_reducible repeat (first | apply rA | apply rN | apply rD)); exact HO177.out) hb) (Kd.R_base ho0)) (Kd.R_base ho1)) (Kd.R_base ho2)) (Kd.R_base ho3)) h1_); have n6_ := aM (Kd.R_mono (Kd.R_told (Kd.R_told (Kd.R_told (Kd.R_told (Kd.R_old (by (with_reducible repeat (first | apply rA | apply rN | apply rD)); exact HO180.out) hb) (Kd.R_base ho0)) (Kd.R_base ho1)) (Kd.R_base ho2)) (Kd.R_base ho3)) h1_); have n7_ := aM (Kd.R_mono (Kd.R_told (Kd.R_told (Kd.R_told (Kd.R_told (Kd.R_old (by (with_reducible repeat (first | apply rA | apply rN | apply rD)); exact HO183.out) hb) (Kd.R_base ho0)) (Kd.R_base ho1)) (Kd.R_base ho2)) (Kd.R_base ho3)) h1_); have n8_ := aM (Kd.R_lower (Kd.R_new' (Kd.R_new' (Kd.R_new' (Kd.R_new' (Kd.R_new' (Kd.R_new' (Kd.R_new' (Kd.R_new' ho0 (Kd.R_lt (by (with_reducible repeat (first | apply rA | apply rN | apply rD)); exact HO159.out))) (Kd.R_lt (by (with_reducible repeat (first | apply rA | apply rN | apply rD)); exact HO162.out))) (Kd.R_lt (by (with_reducible repeat (first | apply rA | apply rN | apply rD)); exact HO165.out))) (Kd.R_lt (by (with_reducible repeat (first | apply rA | apply rN | apply rD)); exact HO168.out))) (Kd.R_lt (by (with_reducible repeat (first | apply rA | apply rN | apply rD)); exact HO174.out))) (Kd.R_lt (by (with_reducible repeat (first | apply rA | apply rN | apply rD)); exact HO177.out))) (Kd.R_lt (by (with_reducible repeat (first | apply rA | apply rN | apply rD)); exact HO180.out))) (Kd.R_lt (by (with_reducible repeat (first | apply rA | apply rN | apply rD)); exact HO183.out))) (below_size (by repeat (first | (with_reducible first | exact HB.out | apply below_alloc | apply pw_below_drewN | apply below_drew1 | refine below_set ?_ GE151.out | refine below_set ?_ GE152.out) | exact HB.out)))); have n9_ := aM (Kd.R_lower (Kd.R_new' (Kd.R_new' (Kd.R_new' (Kd.R_new' (Kd.R_new' (Kd.R_new' (Kd.R_new' (Kd.R_new' ho1 (Kd.R_lt (by (with_reducible repeat (first | apply rA | apply rN | apply rD)); exact HO159.out))) (Kd.R_lt (by (with_reducible repeat (first | apply rA | apply rN | apply rD)); exact HO162.out))) (Kd.R_lt (by (with_reducible repeat (first | apply rA | apply rN | apply rD)); exact HO165.out))) (Kd.R_lt (by (with_reducible repeat (first | apply rA | apply rN | apply rD)); exact HO168.out))) (Kd.R_lt (by (with_reducible repeat (first | apply rA | apply rN | apply rD)); exact HO174.out))) (Kd.R_lt (by (with_reducible repeat (first | apply rA | apply rN | apply rD)); exact HO177.out))) (Kd.R_lt (by (with_reducible repeat (first | apply rA | apply rN | apply rD)); exact HO180.out))) (Kd.R_lt (by (with_reducible repeat (first | apply rA | apply rN | apply rD)); exact HO183.out))) (below_size (by repeat (first | (with_reducible first | exact HB.out | apply below_alloc | apply pw_below_drewN | apply below_drew1 | refine below_set ?_ GE151.out | refine below_set ?_ GE152.out) | exact HB.out)))); have n10_ := aM (Kd.R_lower (Kd.R_new' (Kd.R_new' (Kd.R_new' (Kd.R_new' (Kd.R_new' (Kd.R_new' (Kd.R_new' (Kd.R_new' ho2 (Kd.R_lt (by (with_reducible repeat (first | apply rA | apply rN | apply rD)); exact HO159.out))) (Kd.R_lt (by (with_reducible repeat (first | apply rA | apply rN | apply rD)); exact HO162.out))) (Kd.R_lt (by (with_reducible repeat (first | apply rA | apply rN | apply rD)); exact HO165.out))) (Kd.R_lt (by (with_reducible repeat (first | apply rA | apply rN | apply rD)); exact HO168.out))) (Kd.R_lt (by (with_reducible repeat (first | apply rA | apply rN | apply rD)); exact HO174.out))) (Kd.R_lt (by (with_reducible repeat (first | apply rA | apply rN | apply rD)); exact HO177.out))) (Kd.R_lt (by (with_reducible repeat (first | apply rA | apply rN | apply rD)); exact HO180.out))) (Kd.R_lt (by (with_reducible repeat (first | apply rA | apply rN | apply rD)); exact HO183.out))) (below_size (by repeat (first | (with_reducible first | exact HB.out | apply below_alloc | apply pw_below_drewN | apply below_drew1 | refine below_set ?_ GE151.out | refine below_set ?_ GE152.out) | exact HB.out)))); have n11_ := aM (Kd.R_lower (Kd.R_new' (Kd.R_new' (Kd.R_new' (Kd.R_new' (Kd.R_new' (Kd.R_new' (Kd.R_new' (Kd.R_new' ho3 (Kd.R_lt (by (with_reducible repeat (first | apply rA | apply rN | apply rD)); exact HO159.out))) (Kd.R_lt (by (with_reducible repeat (first | apply rA | apply rN | apply rD)); exact HO162.out))) (Kd.R_lt (by (with_reducible repeat (first | apply rA | apply rN | apply rD)); exact HO165.out))) (Kd.R_lt (by (with_reducible repeat (first | apply rA | apply rN | apply rD)); exact HO168.out))) (Kd.R_lt (by (with_reducible repeat (first | apply rA | apply rN | apply rD)); exact HO174.out))) (Kd.R_lt (by (with_reducible repeat (first | apply rA | apply rN | apply rD)); exact HO177.out))) (Kd.R_lt (by (with_reducible repeat (first | apply rA | apply rN | apply rD)); exact HO180.out))) (Kd.R_lt (by (with_reducible repeat (first | apply rA | apply rN | apply rD)); exact HO183.out))) (below_size (by repeat (first | (with_reducible first | exact HB.out | apply below_alloc | apply pw_below_drewN | apply below_drew1 | refine below_set ?_ GE151.out | refine below_set ?_ GE152.out) | exact HB.out)))); have n12_ := aM (blk_below (g := gb151) (o := .cells #[.int .i64 a0_0, .string a0_1, .slice A0_2 l0_2.length c0_2, .slice A0_3 l0_3.length c0_3, .slice A0_4 l0_4.length c0_4, .slice A0_5 l0_5.length c0_5, .int .i64 a0_6] 50 (0, 0)) (by (with_reducible repeat (first | refine blk_drewN ?_ _ | refine blk_drew ?_ | refine blk_alloc ?_ _)); exact BK151.out) hb); have n13_ := aM (blk_below (g := gb152) (o := .cells #[.int .i64 a1_0, .string a1_1, .slice A1_2 l1_2.length c1_2, .slice A1_3 l1_3.length c1_3, .slice A1_4 l1_4.length c1_4, .slice A1_5 l1_5.length c1_5, .int .i64 a1_6] 50 (0, 0)) (by (with_reducible repeat (first | refine blk_drewN ?_ _ | refine blk_drew ?_ | refine blk_alloc ?_ _)); exact BK152.out) hb); have n14_ := aM (below_step (by repeat (first | (with_reducible first | exact HB.out | apply below_alloc | apply pw_below_drewN | apply below_drew1 | refine below_set ?_ GE151.out | refine below_set ?_ GE152.out) | exact HB.out)) hb); clear HO159; clear HO162; clear HO165; clear HO168; clear HO174; clear HO177; clear HO180; clear HO183; clear BK151; clear BK152; clear HB; have HO159 := n0_; have HO162 := n1_; have HO165 := n2_; have HO168 := n3_; have HO174 := n4_; have HO177 := n5_; have HO180 := n6_; have HO183 := n7_; have HO190 := n8_; have HO193 := n9_; have HO196 := n10_; have HO199 := n11_; have BK151 := n12_; have BK152 := n13_; have HB := n14_; clear n0_ n1_ n2_ n3_ n4_ n5_ n6_ n7_ n8_ n9_ n10_ n11_ n12_ n13_ n14_; (try clear hb); (try clear hb2); (try clear hk); (try clear hi); (try clear ho0); (try clear ho1); (try clear ho2); (try clear ho3)) | ((with_reducible refine gate_dst (N := 7) rfl ?_); refine box_event ?hg (N := 7) ?hd (cs := #[.int .i64 0, .string (⟨#[]⟩ : ByteArray), .slice none 0 0, .slice none 0 0, .slice none 0 0, .slice none 0 0, .int .i64 0]) (t := 53) ?hr ?_; (case hd => rfl); (case hg => rfl); (case hr => first | (go_simp; done) | (go_simp; rfl)); intro gb201 hg w39 hbox hb; have n0_ := aM (Kd.R_below (by (with_reducible repeat (first | apply rA | apply rN | apply rD)); exact HO159.out) hb); have n1_ := aM (Kd.R_below (by (with_reducible repeat (first | apply rA | apply rN | apply rD)); exact HO162.out) hb); have n2_ := aM (Kd.R_below (by (with_reducible repeat (first | apply rA | apply rN | apply rD)); exact HO165.out) hb); have n3_ := aM (Kd.R_below (by (with_reducible repeat (first | apply rA | apply rN | apply rD)); exact HO168.out) hb); have n4_ := aM (Kd.R_below (by (with_reducible repeat (first | apply rA | apply rN | apply rD)); exact HO174.out) hb); have n5_ := aM (Kd.R_below (by (with_reducible repeat (first | apply rA | apply rN | apply rD)); exact HO177.out) hb); have n6_ := aM (Kd.R_below (by (with_reducible repeat (first | apply rA | apply rN | apply rD)); exact HO180.out) hb); have n7_ := aM (Kd.R_below (by (with_reducible repeat (first | apply rA | apply rN | apply rD)); exact HO183.out) hb); have n8_ := aM (Kd.R_below (by (with_reducible repeat (first | apply rA | apply rN | apply rD)); exact HO190.out) hb); have n9_ := aM (Kd.R_below (by (with_reducible repeat (first | apply rA | apply rN | apply rD)); exact HO193.out) hb); have n10_ := aM (Kd.R_below (by (with_reducible repeat (first | apply rA | apply rN | apply rD)); exact HO196.out) hb); have n11_ := aM (Kd.R_below (by (with_reducible repeat (first | apply rA | apply rN | apply rD)); exact HO199.out) hb); have n12_ := aM (blk_below (g := gb151) (o := .cells #[.int .i64 a0_0, .string a0_1, .slice A0_2 l0_2.length c0_2, .slice A0_3 l0_3.length c0_3, .slice A0_4 l0_4.length c0_4, .slice A0_5 l0_5.length c0_5, .int .i64 a0_6] 50 (0, 0)) (by (with_reducible repeat (first | refine blk_drewN ?_ _ | refine blk_drew ?_ | refine blk_alloc ?_ _)); exact BK151.out) hb); have n13_ := aM (blk_below (g := gb152) (o := .cells #[.int .i64 a1_0, .string a1_1, .slice A1_2 l1_2.length c1_2, .slice A1_3 l1_3.length c1_3, .slice A1_4 l1_4.length c1_4, .slice A1_5 l1_5.length c1_5, .int .i64 a1_6] 50 (0, 0)) (by (with_reducible repeat (first | refine blk_drewN ?_ _ | refine blk_drew ?_ | refine blk_alloc ?_ _)); exact BK152.out) hb); have n14_ := aM (below_step (by repeat (first | (with_reducible first | exact HB.out | apply below_alloc | apply pw_below_drewN | apply below_drew1 | refine below_set ?_ GE151.out | refine below_set ?_ GE152.out) | exact HB.out)) hb); have n15_ := aM (hbox); have n16_ := aM ((by rw [hg]; exact (below_size (by repeat (first | (with_reducible first | exact HB.out | apply below_alloc | apply pw_below_drewN | apply below_drew1 | refine below_set ?_ GE151.out | refine below_set ?_ GE152.out) | exact HB.out))) : w.heap.size ≤ gb201)); have n17_ := aM ((by rw [hg]; exact (below_size (by repeat (first | (with_reducible first | exact HB.out | apply below_alloc | apply pw_below_drewN | apply below_drew1 | refine below_set ?_ GE151.out | refine below_set ?_ GE152.out) | exact HB.out))) : w.heap.size ≤ gb201)); have n18_ := aM ((by rw [hg]; exact Nat.ne_of_lt (blk_lt (g := gb151) (o := .cells #[.int .i64 a0_0, .string a0_1, .slice A0_2 l0_2.length c0_2, .slice A0_3 l0_3.length c0_3, .slice A0_4 l0_4.length c0_4, .slice A0_5 l0_5.length c0_5, .int .i64 a0_6] 50 (0, 0)) (by (with_reducible repeat (first | refine blk_drewN ?_ _ | refine blk_drew ?_ | refine blk_alloc ?_ _)); exact BK151.out)) : gb151 ≠ gb201)); have n19_ := aM ((by rw [hg]; exact Nat.ne_of_gt (blk_lt (g := gb151) (o := .cells #[.int .i64 a0_0, .string a0_1, .slice A0_2 l0_2.length c0_2, .slice A0_3 l0_3.length c0_3, .slice A0_4 l0_4.length c0_4, .slice A0_5 l0_5.length c0_5, .int .i64 a0_6] 50 (0, 0)) (by (with_reducible repeat (first | refine blk_drewN ?_ _ | refine blk_drew ?_ | refine blk_alloc ?_ _)); exact BK151.out)) : gb201 ≠ gb151)); have n20_ := aM ((by rw [hg]; exact Nat.ne_of_lt (blk_lt (g := gb152) (o := .cells #[.int .i64 a1_0, .string a1_1, .slice A1_2 l1_2.length c1_2, .slice A1_3 l1_3.length c1_3, .slice A1_4 l1_4.length c1_4, .slice A1_5 l1_5.length c1_5, .int .i64 a1_6] 50 (0, 0)) (by (with_reducible repeat (first | refine blk_drewN ?_ _ | refine blk_drew ?_ | refine blk_alloc ?_ _)); exact BK152.out)) : gb152 ≠ gb201)); have n21_ := aM ((by rw [hg]; exact Nat.ne_of_gt (blk_lt (g := gb152) (o := .cells #[.int .i64 a1_0, .string a1_1, .slice A1_2 l1_2.length c1_2, .slice A1_3 l1_3.length c1_3, .slice A1_4 l1_4.length c1_4, .slice A1_5 l1_5.length c1_5, .int .i64 a1_6] 50 (0, 0)) (by (with_reducible repeat (first | refine blk_drewN ?_ _ | refine blk_drew ?_ | refine blk_alloc ?_ _)); exact BK152.out)) : gb201 ≠ gb152)); clear HO159; clear HO162; clear HO165; clear HO168; clear HO174; clear HO177; clear HO180; clear HO183; clear HO190; clear HO193; clear HO196; clear HO199; clear BK151; clear BK152; clear HB; have HO159 := n0_; have HO162 := n1_; have HO165 := n2_; have HO168 := n3_; have HO174 := n4_; have HO177 := n5_; have HO180 := n6_; have HO183 := n7_; have HO190 := n8_; have HO193 := n9_; have HO196 := n10_; have HO199 := n11_; have BK151 := n12_; have BK152 := n13_; have HB := n14_; have BK201 := n15_; have GW201 := n16_; have GE201 := n17_; have NB151_201 := n18_; have NB201_151 := n19_; have NB152_201 := n20_; have NB201_152 := n21_; clear n0_ n1_ n2_ n3_ n4_ n5_ n6_ n7_ n8_ n9_ n10_ n11_ n12_ n13_ n14_ n15_ n16_ n17_ n18_ n19_ n20_ n21_; clear hb hbox hg; have hnb40 := NB201_151.out; have hnc40 := NB151_201.out; have hnb41 := NB201_152.out; have hnc41 := NB152_201.out; have hcz42_0 : w39.cell? ⟨gb201, 0, none⟩ = some (.int .i64 0) := (blk_cell BK201.out 0).trans rfl; have hcz42_1 : w39.cell? ⟨gb201, 1, none⟩ = some (.string (⟨#[]⟩ : ByteArray)) := (blk_cell BK201.out 1).trans rfl; have hcz42_2 : w39.cell? ⟨gb201, 2, none⟩ = some (.slice none 0 0) := (blk_cell BK201.out 2).trans rfl; have hcz42_3 : w39.cell? ⟨gb201, 3, none⟩ = some (.slice none 0 0) := (blk_cell BK201.out 3).trans rfl; have hcz42_4 : w39.cell? ⟨gb201, 4, none⟩ = some (.slice none 0 0) := (blk_cell BK201.out 4).trans rfl; have hcz42_5 : w39.cell? ⟨gb201, 5, none⟩ = some (.slice none 0 0) := (blk_cell BK201.out 5).trans rfl; have hcz42_6 : w39.cell? ⟨gb201, 6, none⟩ = some (.int .i64 0) := (blk_cell BK201.out 6).trans rfl; have hfz42_0 := blk_frozen BK201.out 0; have hfz42_1 := blk_frozen BK201.out 1; have hfz42_2 := blk_frozen BK201.out 2; have hfz42_3 := blk_frozen BK201.out 3; have hfz42_4 := blk_frozen BK201.out 4; have hfz42_5 := blk_frozen BK201.out 5; have hfz42_6 := blk_frozen BK201.out 6; obtain ⟨Ao43, co43, eo43⟩ := Kd.R_slice HO190.out; subst eo43; obtain ⟨Ao44, co44, eo44⟩ := Kd.R_slice HO193.out; subst eo44; obtain ⟨Ao45, co45, eo45⟩ := Kd.R_slice HO196.out; subst eo45; obtain ⟨Ao46, co46, eo46⟩ := Kd.R_slice HO199.out; subst eo46; have hcz47_0 : w39.cell? ⟨gb152, 0, none⟩ = some (.int .i64 a1_0) := (blk_cell BK152.out 0).trans rfl; have hcz47_1 : w39.cell? ⟨gb152, 1, none⟩ = some (.string a1_1) := (blk_cell BK152.out 1).trans rfl; have hcz47_2 : w39.cell? ⟨gb152, 2, none⟩ = some (.slice A1_2 l1_2.length c1_2) := (blk_cell BK152.out 2).trans rfl; have hcz47_3 : w39.cell? ⟨gb152, 3, none⟩ = some (.slice A1_3 l1_3.length c1_3) := (blk_cell BK152.out 3).trans rfl; have hcz47_4 : w39.cell? ⟨gb152, 4, none⟩ = some (.slice A1_4 l1_4.length c1_4) := (blk_cell BK152.out 4).trans rfl; have hcz47_5 : w39.cell? ⟨gb152, 5, none⟩ = some (.slice A1_5 l1_5.length c1_5) := (blk_cell BK152.out 5).trans rfl; have hcz47_6 : w39.cell? ⟨gb152, 6, none⟩ = some (.int .i64 a1_6) := (blk_cell BK152.out 6).trans rfl; have hfz47_0 := blk_frozen BK152.out 0; have hfz47_1 := blk_frozen BK152.out 1; have hfz47_2 := blk_frozen BK152.out 2; have hfz47_3 := blk_frozen BK152.out 3; have hfz47_4 := blk_frozen BK152.out 4; have hfz47_5 := blk_frozen BK152.out 5; have hfz47_6 := blk_frozen BK152.out 6) | ((with_reducible refine gate_callee (f := 42) rfl ?_); refine goesL_ (some 28) rfl rfl Try.func42 (by kernel_rfl) rfl #[.agg #[.int .i64 a1_0, .string a1_1, .slice A1_2 l1_2.length c1_2, .slice A1_3 l1_3.length c1_3, .slice A1_4 l1_4.length c1_4, .slice A1_5 l1_5.length c1_5, .int .i64 a1_6]] rfl (by (try simp only [List.map_toArray, List.map_cons, List.map_nil]); first | done | rfl | (simp only [List.length_drop, List.length_take]; rfl)) ?_; (with_reducible refine (laws_toFeatureLine.calls kj11 a1_0 a1_1 _ _ l1_2 _ _ l1_3 _ _ l1_4 _ _ l1_5 a1_6 t202 t203 t204 t207 t210 t213 t216 _ ?side1 ?side2 ?side3 ?side4 ?side5 ?side6 ?side7 ?side8 A21.out).mono ?_); (case side1 => exact Kd.C_below HR1_2.out (by repeat (first | (with_reducible first | exact HB.out | apply below_alloc | apply pw_below_drewN | apply below_drew1 | refine below_set ?_ GE151.out | refine below_set ?_ GE152.out | refine below_set ?_ GE201.out) | exact HB.out))); (case side2 => exact HC1_2.out); (case side3 => exact Kd.C_below HR1_3.out (by repeat (first | (with_reducible first | exact HB.out | apply below_alloc | apply pw_below_drewN | apply below_drew1 | refine below_set ?_ GE151.out | refine below_set ?_ GE152.out | refine below_set ?_ GE201.out) | exact HB.out))); (case side4 => exact HC1_3.out); (case side5 => exact Kd.C_below HR1_4.out (by repeat (first | (with_reducible first | exact HB.out | apply below_alloc | apply pw_below_drewN | apply below_drew1 | refine below_set ?_ GE151.out | refine below_set ?_ GE152.out | refine below_set ?_ GE201.out) | exact HB.out))); (case side6 => exact HC1_4.out); (case side7 => exact Kd.C_below HR1_5.out (by repeat (first | (with_reducible first | exact HB.out | apply below_alloc | apply pw_below_drewN | apply below_drew1 | refine below_set ?_ GE151.out | refine below_set ?_ GE152.out | refine below_set ?_ GE201.out) | exact HB.out))); (case side8 => exact HC1_5.out); rintro e w48 ⟨v205, v208, v211, v214, rfl, ho0, ho1, ho2, ho3, hb⟩; refine ⟨_, rfl, ?_⟩; have n0_ := aM (Kd.R_mono (Kd.R_told (Kd.R_told (Kd.R_told (Kd.R_told (Kd.R_old (by (with_reducible repeat (first | apply rA | apply rN | apply rD)); exact (Kd.R_mono (Kd.R_far (p := ⟨gb201, 6, none⟩) (Kd.R_far (p := ⟨gb201, 5, none⟩) (Kd.R_far (p := ⟨gb201, 4, none⟩) (Kd.R_far (p := ⟨gb201, 3, none⟩) (Kd.R_far (p := ⟨gb201, 2, none⟩) (Kd.R_far (p := ⟨gb201, 1, none⟩) (Kd.R_far (p := ⟨gb201, 0, none⟩) (Kd.R_types HO159.out BK201.out (by decide)) h2_ (.int .i64 t186)) h2_ (.string t187)) h2_ (.slice Ao43 t188.length co43)) h2_ (.slice Ao44 t191.length co44)) h2_ (.slice Ao45 t194.length co45)) h2_ (.slice Ao46 t197.length co46)) h2_ (.int .i64 t200)) h1_)) hb) (Kd.R_base ho0)) (Kd.R_base ho1)) (Kd.R_base ho2)) (Kd.R_base ho3)) h1_); have n1_ := aM (Kd.R_mono (Kd.R_told (Kd.R_told (Kd.R_told (Kd.R_told (Kd.R_old (by (with_reducible repeat (first | apply rA | apply rN | apply rD)); exact (Kd.R_mono (Kd.R_far (p := ⟨gb201, 6, none⟩) (Kd.R_far (p := ⟨gb201, 5, none⟩) (Kd.R_far (p := ⟨gb201, 4, none⟩) (Kd.R_far (p := ⟨gb201, 3, none⟩) (Kd.R_far (p := ⟨gb201, 2, none⟩) (Kd.R_far (p := ⟨gb201, 1, none⟩) (Kd.R_far (p := ⟨gb201, 0, none⟩) (Kd.R_types HO162.out BK201.out (by decide)) h2_ (.int .i64 t186)) h2_ (.string t187)) h2_ (.slice Ao43 t188.length co43)) h2_ (.slice Ao44 t191.length co44)) h2_ (.slice Ao45 t194.length co45)) h2_ (.slice Ao46 t197.length co46)) h2_ (.int .i64 t200)) h1_)) hb) (Kd.R_base ho0)) (Kd.R_base ho1)) (Kd.R_base ho2)) (Kd.R_base ho3)) h1_); have n2_ := aM (Kd.R_mono (Kd.R_told (Kd.R_told (Kd.R_told (Kd.R_told (Kd.R_old (by (with_reducible repeat (first | apply rA | apply rN | apply rD)); exact (Kd.R_mono (Kd.R_far (p := ⟨gb201, 6, none⟩) (Kd.R_far (p := ⟨gb201, 5, none⟩) (Kd.R_far (p := ⟨gb201, 4, none⟩) (Kd.R_far (p := ⟨gb201, 3, none⟩) (Kd.R_far (p := ⟨gb201, 2, none⟩) (Kd.R_far (p := ⟨gb201, 1, none⟩) (Kd.R_far (p := ⟨gb201, 0, none⟩) (Kd.R_types HO165.out BK201.out (by decide)) h2_ (.int .i64 t186)) h2_ (.string t187)) h2_ (.slice Ao43 t188.length co43)) h2_ (.slice Ao44 t191.length co44)) h2_ (.slice Ao45 t194.length co45)) h2_ (.slice Ao46 t197.length co46)) h2_ (.int .i64 t200)) h1_)) hb) (Kd.R_base ho0)) (Kd.R_base ho1)) (Kd.R_base ho2)) (Kd.R_base ho3)) h1_); have n3_ := aM (Kd.R_mono (Kd.R_told (Kd.R_told (Kd.R_told (Kd.R_told (Kd.R_old (by (with_reducible repeat (first | apply rA | apply rN | apply rD)); exact (Kd.R_mono (Kd.R_far (p := ⟨gb201, 6, none⟩) (Kd.R_far (p := ⟨gb201, 5, none⟩) (Kd.R_far (p := ⟨gb201, 4, none⟩) (Kd.R_far (p := ⟨gb201, 3, none⟩) (Kd.R_far (p := ⟨gb201, 2, none⟩) (Kd.R_far (p := ⟨gb201, 1, none⟩) (Kd.R_far (p := ⟨gb201, 0, none⟩) (Kd.R_types HO168.out BK201.out (by decide)) h2_ (.int .i64 t186)) h2_ (.string t187)) h2_ (.slice Ao43 t188.length co43)) h2_ (.slice Ao44 t191.length co44)) h2_ (.slice Ao45 t194.length co45)) h2_ (.slice Ao46 t197.length co46)) h2_ (.int .i64 t200)) h1_)) hb) (Kd.R_base ho0)) (Kd.R_base ho1)) (Kd.R_base ho2)) (Kd.R_base ho3)) h1_); have n4_ := aM (Kd.R_mono (Kd.R_told (Kd.R_told (Kd.R_told (Kd.R_told (Kd.R_old (by (with_reducible repeat (first | apply rA | apply rN | apply rD)); exact (Kd.R_mono (Kd.R_far (p := ⟨gb201, 6, none⟩) (Kd.R_far (p := ⟨gb201, 5, none⟩) (Kd.R_far (p := ⟨gb201, 4, none⟩) (Kd.R_far (p := ⟨gb201, 3, none⟩) (Kd.R_far (p := ⟨gb201, 2, none⟩) (Kd.R_far (p := ⟨gb201, 1, none⟩) (Kd.R_far (p := ⟨gb201, 0, none⟩) (Kd.R_types HO174.out BK201.out (by decide)) h2_ (.int .i64 t186)) h2_ (.string t187)) h2_ (.slice Ao43 t188.length co43)) h2_ (.slice Ao44 t191.length co44)) h2_ (.slice Ao45 t194.length co45)) h2_ (.slice Ao46 t197.length co46)) h2_ (.int .i64 t200)) h1_)) hb) (Kd.R_base ho0)) (Kd.R_base ho1)) (Kd.R_base ho2)) (Kd.R_base ho3)) h1_); have n5_ := aM (Kd.R_mono (Kd.R_told (Kd.R_told (Kd.R_told (Kd.R_told (Kd.R_old (by (with_reducible repeat (first | apply rA | apply rN | apply rD)); exact (Kd.R_mono (Kd.R_far (p := ⟨gb201, 6, none⟩) (Kd.R_far (p := ⟨gb201, 5, none⟩) (Kd.R_far (p := ⟨gb201, 4, none⟩) (Kd.R_far (p := ⟨gb201, 3, none⟩) (Kd.R_far (p := ⟨gb201, 2, none⟩) (Kd.R_far (p := ⟨gb201, 1, none⟩) (Kd.R_far (p := ⟨gb201, 0, none⟩) (Kd.R_types HO177.out BK201.out (by decide)) h2_ (.int .i64 t186)) h2_ (.string t187)) h2_ (.slice Ao43 t188.length co43)) h2_ (.slice Ao44 t191.length co44)) h2_ (.slice Ao45 t194.length co45)) h2_ (.slice Ao46 t197.length co46)) h2_ (.int .i64 t200)) h1_)) hb) (Kd.R_base ho0)) (Kd.R_base ho1)) (Kd.R_base ho2)) (Kd.R_base ho3)) h1_); have n6_ := aM (Kd.R_mono (Kd.R_told (Kd.R_told (Kd.R_told (Kd.R_told (Kd.R_old (by (with_reducible repeat (first | apply rA | apply rN | apply rD)); exact (Kd.R_mono (Kd.R_far (p := ⟨gb201, 6, none⟩) (Kd.R_far (p := ⟨gb201, 5, none⟩) (Kd.R_far (p := ⟨gb201, 4, none⟩) (Kd.R_far (p := ⟨gb201, 3, none⟩) (Kd.R_far (p := ⟨gb201, 2, none⟩) (Kd.R_far (p := ⟨gb201, 1, none⟩) (Kd.R_far (p := ⟨gb201, 0, none⟩) (Kd.R_types HO180.out BK201.out (by decide)) h2_ (.int .i64 t186)) h2_ (.string t187)) h2_ (.slice Ao43 t188.length co43)) h2_ (.slice Ao44 t191.length co44)) h2_ (.slice Ao45 t194.length co45)) h2_ (.slice Ao46 t197.length co46)) h2_ (.int .i64 t200)) h1_)) hb) (Kd.R_base ho0)) (Kd.R_base ho1)) (Kd.R_base ho2)) (Kd.R_base ho3)) h1_); have n7_ := aM (Kd.R_mono (Kd.R_told (Kd.R_told (Kd.R_told (Kd.R_told (Kd.R_old (by (with_reducible repeat (first | apply rA | apply rN | apply rD)); exact (Kd.R_mono (Kd.R_far (p := ⟨gb201, 6, none⟩) (Kd.R_far (p := ⟨gb201, 5, none⟩) (Kd.R_far (p := ⟨gb201, 4, none⟩) (Kd.R_far (p := ⟨gb201, 3, none⟩) (Kd.R_far (p := ⟨gb201, 2, none⟩) (Kd.R_far (p := ⟨gb201, 1, none⟩) (Kd.R_far (p := ⟨gb201, 0, none⟩) (Kd.R_types HO183.out BK201.out (by decide)) h2_ (.int .i64 t186)) h2_ (.string t187)) h2_ (.slice Ao43 t188.length co43)) h2_ (.slice Ao44 t191.length co44)) h2_ (.slice Ao45 t194.length co45)) h2_ (.slice Ao46 t197.length co46)) h2_ (.int .i64 t200)) h1_)) hb) (Kd.R_base ho0)) (Kd.R_base ho1)) (Kd.R_base ho2)) (Kd.R_base ho3)) h1_); have n8_ := aM (Kd.R_mono (Kd.R_told (Kd.R_told (Kd.R_told (Kd.R_told (Kd.R_old (by (with_reducible repeat (first | apply rA | apply rN | apply rD)); exact (Kd.R_mono (Kd.R_far (p := ⟨gb201, 6, none⟩) (Kd.R_far (p := ⟨gb201, 5, none⟩) (Kd.R_far (p := ⟨gb201, 4, none⟩) (Kd.R_far (p := ⟨gb201, 3, none⟩) (Kd.R_far (p := ⟨gb201, 2, none⟩) (Kd.R_far (p := ⟨gb201, 1, none⟩) (Kd.R_far (p := ⟨gb201, 0, none⟩) (Kd.R_types HO190.out BK201.out (by decide)) h2_ (.int .i64 t186)) h2_ (.string t187)) h2_ (.slice Ao43 t188.length co43)) h2_ (.slice Ao44 t191.length co44)) h2_ (.slice Ao45 t194.length co45)) h2_ (.slice Ao46 t197.length co46)) h2_ (.int .i64 t200)) h1_)) hb) (Kd.R_base ho0)) (Kd.R_base ho1)) (Kd.R_base ho2)) (Kd.R_base ho3)) h1_); have n9_ := aM (Kd.R_mono (Kd.R_told (Kd.R_told (Kd.R_told (Kd.R_told (Kd.R_old (by (with_reducible repeat (first | apply rA | apply rN | apply rD)); exact (Kd.R_mono (Kd.R_far (p := ⟨gb201, 6, none⟩) (Kd.R_far (p := ⟨gb201, 5, none⟩) (Kd.R_far (p := ⟨gb201, 4, none⟩) (Kd.R_far (p := ⟨gb201, 3, none⟩) (Kd.R_far (p := ⟨gb201, 2, none⟩) (Kd.R_far (p := ⟨gb201, 1, none⟩) (Kd.R_far (p := ⟨gb201, 0, none⟩) (Kd.R_types HO193.out BK201.out (by decide)) h2_ (.int .i64 t186)) h2_ (.string t187)) h2_ (.slice Ao43 t188.length co43)) h2_ (.slice Ao44 t191.length co44)) h2_ (.slice Ao45 t194.length co45)) h2_ (.slice Ao46 t197.length co46)) h2_ (.int .i64 t200)) h1_)) hb) (Kd.R_base ho0)) (Kd.R_base ho1)) (Kd.R_base ho2)) (Kd.R_base ho3)) h1_); have n10_ := aM (Kd.R_mono (Kd.R_told (Kd.R_told (Kd.R_told (Kd.R_told (Kd.R_old (by (with_reducible repeat (first | apply rA | apply rN | apply rD)); exact (Kd.R_mono (Kd.R_far (p := ⟨gb201, 6, none⟩) (Kd.R_far (p := ⟨gb201, 5, none⟩) (Kd.R_far (p := ⟨gb201, 4, none⟩) (Kd.R_far (p := ⟨gb201, 3, none⟩) (Kd.R_far (p := ⟨gb201, 2, none⟩) (Kd.R_far (p := ⟨gb201, 1, none⟩) (Kd.R_far (p := ⟨gb201, 0, none⟩) (Kd.R_types HO196.out BK201.out (by decide)) h2_ (.int .i64 t186)) h2_ (.string t187)) h2_ (.slice Ao43 t188.length co43)) h2_ (.slice Ao44 t191.length co44)) h2_ (.slice Ao45 t194.length co45)) h2_ (.slice Ao46 t197.length co46)) h2_ (.int .i64 t200)) h1_)) hb) (Kd.R_base ho0)) (Kd.R_base ho1)) (Kd.R_base ho2)) (Kd.R_base ho3)) h1_); have n11_ := aM (Kd.R_mono (Kd.R_told (Kd.R_told (Kd.R_told (Kd.R_told (Kd.R_old (by (with_reducible repeat (first | apply rA | apply rN | apply rD)); exact (Kd.R_mono (Kd.R_far (p := ⟨gb201, 6, none⟩) (Kd.R_far (p := ⟨gb201, 5, none⟩) (Kd.R_far (p := ⟨gb201, 4, none⟩) (Kd.R_far (p := ⟨gb201, 3, none⟩) (Kd.R_far (p := ⟨gb201, 2, none⟩) (Kd.R_far (p := ⟨gb201, 1, none⟩) (Kd.R_far (p := ⟨gb201, 0, none⟩) (Kd.R_types HO199.out BK201.out (by decide)) h2_ (.int .i64 t186)) h2_ (.string t187)) h2_ (.slice Ao43 t188.length co43)) h2_ (.slice Ao44 t191.length co44)) h2_ (.slice Ao45 t194.length co45)) h2_ (.slice Ao46 t197.length co46)) h2_ (.int .i64 t200)) h1_)) hb) (Kd.R_base ho0)) (Kd.R_base ho1)) (Kd.R_base ho2)) (Kd.R_base ho3)) h1_); have n12_ := aM (Kd.R_lower (Kd.R_new' (Kd.R_new' (Kd.R_new' (Kd.R_new' (Kd.R_new' (Kd.R_new' (Kd.R_new' (Kd.R_new' (Kd.R_new' (Kd.R_new' (Kd.R_new' (Kd.R_new' ho0 (Kd.R_lt (by (with_reducible repeat (first | apply rA | apply rN | apply rD)); exact (Kd.R_mono (Kd.R_far (p := ⟨gb201, 6, none⟩) (Kd.R_far (p := ⟨gb201, 5, none⟩) (Kd.R_far (p := ⟨gb201, 4, none⟩) (Kd.R_far (p := ⟨gb201, 3, none⟩) (Kd.R_far (p := ⟨gb201, 2, none⟩) (Kd.R_far (p := ⟨gb201, 1, none⟩) (Kd.R_far (p := ⟨gb201, 0, none⟩) (Kd.R_types HO159.out BK201.out (by decide)) h2_ (.int .i64 t186)) h2_ (.string t187)) h2_ (.slice Ao43 t188.length co43)) h2_ (.slice Ao44 t191.length co44)) h2_ (.slice Ao45 t194.length co45)) h2_ (.slice Ao46 t197.length co46)) h2_ (.int .i64 t200)) h1_)))) (Kd.R_lt (by (with_reducible repeat (first | apply rA | apply rN | apply rD)); exact (Kd.R_mono (Kd.R_far (p := ⟨gb201, 6, none⟩) (Kd.R_far (p := ⟨gb201, 5, none⟩) (Kd.R_far (p := ⟨gb201, 4, none⟩) (Kd.R_far (p := ⟨gb201, 3, none⟩) (Kd.R_far (p := ⟨gb201, 2, none⟩) (Kd.R_far (p := ⟨gb201, 1, none⟩) (Kd.R_far (p := ⟨gb201, 0, none⟩) (Kd.R_types HO162.out BK201.out (by decide)) h2_ (.int .i64 t186)) h2_ (.string t187)) h2_ (.slice Ao43 t188.length co43)) h2_ (.slice Ao44 t191.length co44)) h2_ (.slice Ao45 t194.length co45)) h2_ (.slice Ao46 t197.length co46)) h2_ (.int .i64 t200)) h1_)))) (Kd.R_lt (by (with_reducible repeat (first | apply rA | apply rN | apply rD)); exact (Kd.R_mono (Kd.R_far (p := ⟨gb201, 6, none⟩) (Kd.R_far (p := ⟨gb201, 5, none⟩) (Kd.R_far (p := ⟨gb201, 4, none⟩) (Kd.R_far (p := ⟨gb201, 3, none⟩) (Kd.R_far (p := ⟨gb201, 2, none⟩) (Kd.R_far (p := ⟨gb201, 1, none⟩) (Kd.R_far (p := ⟨gb201, 0, none⟩) (Kd.R_types HO165.out BK201.out (by decide)) h2_ (.int .i64 t186)) h2_ (.string t187)) h2_ (.slice Ao43 t188.length co43)) h2_ (.slice Ao44 t191.length co44)) h2_ (.slice Ao45 t194.length co45)) h2_ (.slice Ao46 t197.length co46)) h2_ (.int .i64 t200)) h1_)))) (Kd.R_lt (by (with_reducible repeat (first | apply rA | apply rN | apply rD)); exact (Kd.R_mono (Kd.R_far (p := ⟨gb201, 6, none⟩) (Kd.R_far (p := ⟨gb201, 5, none⟩) (Kd.R_far (p := ⟨gb201, 4, none⟩) (Kd.R_far (p := ⟨gb201, 3, none⟩) (Kd.R_far (p := ⟨gb201, 2, none⟩) (Kd.R_far (p := ⟨gb201, 1, none⟩) (Kd.R_far (p := ⟨gb201, 0, none⟩) (Kd.R_types HO168.out BK201.out (by decide)) h2_ (.int .i64 t186)) h2_ (.string t187)) h2_ (.slice Ao43 t188.length co43)) h2_ (.slice Ao44 t191.length co44)) h2_ (.slice Ao45 t194.length co45)) h2_ (.slice Ao46 t197.length co46)) h2_ (.int .i64 t200)) h1_)))) (Kd.R_lt (by (with_reducible repeat (first | apply rA | apply rN | apply rD)); exact (Kd.R_mono (Kd.R_far (p := ⟨gb201, 6, none⟩) (Kd.R_far (p := ⟨gb201, 5, none⟩) (Kd.R_far (p := ⟨gb201, 4, none⟩) (Kd.R_far (p := ⟨gb201, 3, none⟩) (Kd.R_far (p := ⟨gb201, 2, none⟩) (Kd.R_far (p := ⟨gb201, 1, none⟩) (Kd.R_far (p := ⟨gb201, 0, none⟩) (Kd.R_types HO174.out BK201.out (by decide)) h2_ (.int .i64 t186)) h2_ (.string t187)) h2_ (.slice Ao43 t188.length co43)) h2_ (.slice Ao44 t191.length co44)) h2_ (.slice Ao45 t194.length co45)) h2_ (.slice Ao46 t197.length co46)) h2_ (.int .i64 t200)) h1_)))) (Kd.R_lt (by (with_reducible repeat (first | apply rA | apply rN | apply rD)); exact (Kd.R_mono (Kd.R_far (p := ⟨gb201, 6, none⟩) (Kd.R_far (p := ⟨gb201, 5, none⟩) (Kd.R_far (p := ⟨gb201, 4, none⟩) (Kd.R_far (p := ⟨gb201, 3, none⟩) (Kd.R_far (p := ⟨gb201, 2, none⟩) (Kd.R_far (p := ⟨gb201, 1, none⟩) (Kd.R_far (p := ⟨gb201, 0, none⟩) (Kd.R_types HO177.out BK201.out (by decide)) h2_ (.int .i64 t186)) h2_ (.string t187)) h2_ (.slice Ao43 t188.length co43)) h2_ (.slice Ao44 t191.length co44)) h2_ (.slice Ao45 t194.length co45)) h2_ (.slice Ao46 t197.length co46)) h2_ (.int .i64 t200)) h1_)))) (Kd.R_lt (by (with_reducible repeat (first | apply rA | apply rN | apply rD)); exact (Kd.R_mono (Kd.R_far (p := ⟨gb201, 6, none⟩) (Kd.R_far (p := ⟨gb201, 5, none⟩) (Kd.R_far (p := ⟨gb201, 4, none⟩) (Kd.R_far (p := ⟨gb201, 3, none⟩) (Kd.R_far (p := ⟨gb201, 2, none⟩) (Kd.R_far (p := ⟨gb201, 1, none⟩) (Kd.R_far (p := ⟨gb201, 0, none⟩) (Kd.R_types HO180.out BK201.out (by decide)) h2_ (.int .i64 t186)) h2_ (.string t187)) h2_ (.slice Ao43 t188.length co43)) h2_ (.slice Ao44 t191.length co44)) h2_ (.slice Ao45 t194.length co45)) h2_ (.slice Ao46 t197.length co46)) h2_ (.int .i64 t200)) h1_)))) (Kd.R_lt (by (with_reducible repeat (first | apply rA | apply rN | apply rD)); exact (Kd.R_mono (Kd.R_far (p := ⟨gb201, 6, none⟩) (Kd.R_far (p := ⟨gb201, 5, none⟩) (Kd.R_far (p := ⟨gb201, 4, none⟩) (Kd.R_far (p := ⟨gb201, 3, none⟩) (Kd.R_far (p := ⟨gb201, 2, none⟩) (Kd.R_far (p := ⟨gb201, 1, none⟩) (Kd.R_far (p := ⟨gb201, 0, none⟩) (Kd.R_types HO183.out BK201.out (by decide)) h2_ (.int .i64 t186)) h2_ (.string t187)) h2_ (.slice Ao43 t188.length co43)) h2_ (.slice Ao44 t191.length co44)) h2_ (.slice Ao45 t194.length co45)) h2_ (.slice Ao46 t197.length co46)) h2_ (.int .i64 t200)) h1_)))) (Kd.R_lt (by (with_reducible repeat (first | apply rA | apply rN | apply rD)); exact (Kd.R_mono (Kd.R_far (p := ⟨gb201, 6, none⟩) (Kd.R_far (p := ⟨gb201, 5, none⟩) (Kd.R_far (p := ⟨gb201, 4, none⟩) (Kd.R_far (p := ⟨gb201, 3, none⟩) (Kd.R_far (p := ⟨gb201, 2, none⟩) (Kd.R_far (p := ⟨gb201, 1, none⟩) (Kd.R_far (p := ⟨gb201, 0, none⟩) (Kd.R_types HO190.out BK201.out (by decide)) h2_ (.int .i64 t186)) h2_ (.string t187)) h2_ (.slice Ao43 t188.length co43)) h2_ (.slice Ao44 t191.length co44)) h2_ (.slice Ao45 t194.length co45)) h2_ (.slice Ao46 t197.length co46)) h2_ (.int .i64 t200)) h1_)))) (Kd.R_lt (by (with_reducible repeat (first | apply rA | apply rN | apply rD)); exact (Kd.R_mono (Kd.R_far (p := ⟨gb201, 6, none⟩) (Kd.R_far (p := ⟨gb201, 5, none⟩) (Kd.R_far (p := ⟨gb201, 4, none⟩) (Kd.R_far (p := ⟨gb201, 3, none⟩) (Kd.R_far (p := ⟨gb201, 2, none⟩) (Kd.R_far (p := ⟨gb201, 1, none⟩) (Kd.R_far (p := ⟨gb201, 0, none⟩) (Kd.R_types HO193.out BK201.out (by decide)) h2_ (.int .i64 t186)) h2_ (.string t187)) h2_ (.slice Ao43 t188.length co43)) h2_ (.slice Ao44 t191.length co44)) h2_ (.slice Ao45 t194.length co45)) h2_ (.slice Ao46 t197.length co46)) h2_ (.int .i64 t200)) h1_)))) (Kd.R_lt (by (with_reducible repeat (first | apply rA | apply rN | apply rD)); exact (Kd.R_mono (Kd.R_far (p := ⟨gb201, 6, none⟩) (Kd.R_far (p := ⟨gb201, 5, none⟩) (Kd.R_far (p := ⟨gb201, 4, none⟩) (Kd.R_far (p := ⟨gb201, 3, none⟩) (Kd.R_far (p := ⟨gb201, 2, none⟩) (Kd.R_far (p := ⟨gb201, 1, none⟩) (Kd.R_far (p := ⟨gb201, 0, none⟩) (Kd.R_types HO196.out BK201.out (by decide)) h2_ (.int .i64 t186)) h2_ (.string t187)) h2_ (.slice Ao43 t188.length co43)) h2_ (.slice Ao44 t191.length co44)) h2_ (.slice Ao45 t194.length co45)) h2_ (.slice Ao46 t197.length co46)) h2_ (.int .i64 t200)) h1_)))) (Kd.R_lt (by (with_reducible repeat (first | apply rA | apply rN | apply rD)); exact (Kd.R_mono (Kd.R_far (p := ⟨gb201, 6, none⟩) (Kd.R_far (p := ⟨gb201, 5, none⟩) (Kd.R_far (p := ⟨gb201, 4, none⟩) (Kd.R_far (p := ⟨gb201, 3, none⟩) (Kd.R_far (p := ⟨gb201, 2, none⟩) (Kd.R_far (p := ⟨gb201, 1, none⟩) (Kd.R_far (p := ⟨gb201, 0, none⟩) (Kd.R_types HO199.out BK201.out (by decide)) h2_ (.int .i64 t186)) h2_ (.string t187)) h2_ (.slice Ao43 t188.length co43)) h2_ (.slice Ao44 t191.length co44)) h2_ (.slice Ao45 t194.length co45)) h2_ (.slice Ao46 t197.length co46)) h2_ (.int .i64 t200)) h1_)))) (below_size (by repeat (first | (with_reducible first | exact HB.out | apply below_alloc | apply pw_below_drewN | apply below_drew1 | refine below_set ?_ GE151.out | refine below_set ?_ GE152.out | refine below_set ?_ GE201.out) | exact HB.out)))); have n13_ := aM (Kd.R_lower (Kd.R_new' (Kd.R_new' (Kd.R_new' (Kd.R_new' (Kd.R_new' (Kd.R_new' (Kd.R_new' (Kd.R_new' (Kd.R_new' (Kd.R_new' (Kd.R_new' (Kd.R_new' ho1 (Kd.R_lt (by (with_reducible repeat (first | apply rA | apply rN | apply rD)); exact (Kd.R_mono (Kd.R_far (p := ⟨gb201, 6, none⟩) (Kd.R_far (p := ⟨gb201, 5, none⟩) (Kd.R_far (p := ⟨gb201, 4, none⟩) (Kd.R_far (p := ⟨gb201, 3, none⟩) (Kd.R_far (p := ⟨gb201, 2, none⟩) (Kd.R_far (p := ⟨gb201, 1, none⟩) (Kd.R_far (p := ⟨gb201, 0, none⟩) (Kd.R_types HO159.out BK201.out (by decide)) h2_ (.int .i64 t186)) h2_ (.string t187)) h2_ (.slice Ao43 t188.length co43)) h2_ (.slice Ao44 t191.length co44)) h2_ (.slice Ao45 t194.length co45)) h2_ (.slice Ao46 t197.length co46)) h2_ (.int .i64 t200)) h1_)))) (Kd.R_lt (by (with_reducible repeat (first | apply rA | apply rN | apply rD)); exact (Kd.R_mono (Kd.R_far (p := ⟨gb201, 6, none⟩) (Kd.R_far (p := ⟨gb201, 5, none⟩) (Kd.R_far (p := ⟨gb201, 4, none⟩) (Kd.R_far (p := ⟨gb201, 3, none⟩) (Kd.R_far (p := ⟨gb201, 2, none⟩) (Kd.R_far (p := ⟨gb201, 1, none⟩) (Kd.R_far (p := ⟨gb201, 0, none⟩) (Kd.R_types HO162.out BK201.out (by decide)) h2_ (.int .i64 t186)) h2_ (.string t187)) h2_ (.slice Ao43 t188.length co43)) h2_ (.slice Ao44 t191.length co44)) h2_ (.slice Ao45 t194.length co45)) h2_ (.slice Ao46 t197.length co46)) h2_ (.int .i64 t200)) h1_)))) (Kd.R_lt (by (with_reducible repeat (first | apply rA | apply rN | apply rD)); exact (Kd.R_mono (Kd.R_far (p := ⟨gb201, 6, none⟩) (Kd.R_far (p := ⟨gb201, 5, none⟩) (Kd.R_far (p := ⟨gb201, 4, none⟩) (Kd.R_far (p := ⟨gb201, 3, none⟩) (Kd.R_far (p := ⟨gb201, 2, none⟩) (Kd.R_far (p := ⟨gb201, 1, none⟩) (Kd.R_far (p := ⟨gb201, 0, none⟩) (Kd.R_types HO165.out BK201.out (by decide)) h2_ (.int .i64 t186)) h2_ (.string t187)) h2_ (.slice Ao43 t188.length co43)) h2_ (.slice Ao44 t191.length co44)) h2_ (.slice Ao45 t194.length co45)) h2_ (.slice Ao46 t197.length co46)) h2_ (.int .i64 t200)) h1_)))) (Kd.R_lt (by (with_reducible repeat (first | apply rA | apply rN | apply rD)); exact (Kd.R_mono (Kd.R_far (p := ⟨gb201, 6, none⟩) (Kd.R_far (p := ⟨gb201, 5, none⟩) (Kd.R_far (p := ⟨gb201, 4, none⟩) (Kd.R_far (p := ⟨gb201, 3, none⟩) (Kd.R_far (p := ⟨gb201, 2, none⟩) (Kd.R_far (p := ⟨gb201, 1, none⟩) (Kd.R_far (p := ⟨gb201, 0, none⟩) (Kd.R_types HO168.out BK201.out (by decide)) h2_ (.int .i64 t186)) h2_ (.string t187)) h2_ (.slice Ao43 t188.length co43)) h2_ (.slice Ao44 t191.length co44)) h2_ (.slice Ao45 t194.length co45)) h2_ (.slice Ao46 t197.length co46)) h2_ (.int .i64 t200)) h1_)))) (Kd.R_lt (by (with_reducible repeat (first | apply rA | apply rN | apply rD)); exact (Kd.R_mono (Kd.R_far (p := ⟨gb201, 6, none⟩) (Kd.R_far (p := ⟨gb201, 5, none⟩) (Kd.R_far (p := ⟨gb201, 4, none⟩) (Kd.R_far (p := ⟨gb201, 3, none⟩) (Kd.R_far (p := ⟨gb201, 2, none⟩) (Kd.R_far (p := ⟨gb201, 1, none⟩) (Kd.R_far (p := ⟨gb201, 0, none⟩) (Kd.R_types HO174.out BK201.out (by decide)) h2_ (.int .i64 t186)) h2_ (.string t187)) h2_ (.slice Ao43 t188.length co43)) h2_ (.slice Ao44 t191.length co44)) h2_ (.slice Ao45 t194.length co45)) h2_ (.slice Ao46 t197.length co46)) h2_ (.int .i64 t200)) h1_)))) (Kd.R_lt (by (with_reducible repeat (first | apply rA | apply rN | apply rD)); exact (Kd.R_mono (Kd.R_far (p := ⟨gb201, 6, none⟩) (Kd.R_far (p := ⟨gb201, 5, none⟩) (Kd.R_far (p := ⟨gb201, 4, none⟩) (Kd.R_far (p := ⟨gb201, 3, none⟩) (Kd.R_far (p := ⟨gb201, 2, none⟩) (Kd.R_far (p := ⟨gb201, 1, none⟩) (Kd.R_far (p := ⟨gb201, 0, none⟩) (Kd.R_types HO177.out BK201.out (by decide)) h2_ (.int .i64 t186)) h2_ (.string t187)) h2_ (.slice Ao43 t188.length co43)) h2_ (.slice Ao44 t191.length co44)) h2_ (.slice Ao45 t194.length co45)) h2_ (.slice Ao46 t197.length co46)) h2_ (.int .i64 t200)) h1_)))) (Kd.R_lt (by (with_reducible repeat (first | apply rA | apply rN | apply rD)); exact (Kd.R_mono (Kd.R_far (p := ⟨gb201, 6, none⟩) (Kd.R_far (p := ⟨gb201, 5, none⟩) (Kd.R_far (p := ⟨gb201, 4, none⟩) (Kd.R_far (p := ⟨gb201, 3, none⟩) (Kd.R_far (p := ⟨gb201, 2, none⟩) (Kd.R_far (p := ⟨gb201, 1, none⟩) (Kd.R_far (p := ⟨gb201, 0, none⟩) (Kd.R_types HO180.out BK201.out (by decide)) h2_ (.int .i64 t186)) h2_ (.string t187)) h2_ (.slice Ao43 t188.length co43)) h2_ (.slice Ao44 t191.length co44)) h2_ (.slice Ao45 t194.length co45)) h2_ (.slice Ao46 t197.length co46)) h2_ (.int .i64 t200)) h1_)))) (Kd.R_lt (by (with_reducible repeat (first | apply rA | apply rN | apply rD)); exact (Kd.R_mono (Kd.R_far (p := ⟨gb201, 6, none⟩) (Kd.R_far (p := ⟨gb201, 5, none⟩) (Kd.R_far (p := ⟨gb201, 4, none⟩) (Kd.R_far (p := ⟨gb201, 3, none⟩) (Kd.R_far (p := ⟨gb201, 2, none⟩) (Kd.R_far (p := ⟨gb201, 1, none⟩) (Kd.R_far (p := ⟨gb201, 0, none⟩) (Kd.R_types HO183.out BK201.out (by decide)) h2_ (.int .i64 t186)) h2_ (.string t187)) h2_ (.slice Ao43 t188.length co43)) h2_ (.slice Ao44 t191.length co44)) h2_ (.slice Ao45 t194.length co45)) h2_ (.slice Ao46 t197.length co46)) h2_ (.int .i64 t200)) h1_)))) (Kd.R_lt (by (with_reducible repeat (first | apply rA | apply rN | apply rD)); exact (Kd.R_mono (Kd.R_far (p := ⟨gb201, 6, none⟩) (Kd.R_far (p := ⟨gb201, 5, none⟩) (Kd.R_far (p := ⟨gb201, 4, none⟩) (Kd.R_far (p := ⟨gb201, 3, none⟩) (Kd.R_far (p := ⟨gb201, 2, none⟩) (Kd.R_far (p := ⟨gb201, 1, none⟩) (Kd.R_far (p := ⟨gb201, 0, none⟩) (Kd.R_types HO190.out BK201.out (by decide)) h2_ (.int .i64 t186)) h2_ (.string t187)) h2_ (.slice Ao43 t188.length co43)) h2_ (.slice Ao44 t191.length co44)) h2_ (.slice Ao45 t194.length co45)) h2_ (.slice Ao46 t197.length co46)) h2_ (.int .i64 t200)) h1_)))) (Kd.R_lt (by (with_reducible repeat (first | apply rA | apply rN | apply rD)); exact (Kd.R_mono (Kd.R_far (p := ⟨gb201, 6, none⟩) (Kd.R_far (p := ⟨gb201, 5, none⟩) (Kd.R_far (p := ⟨gb201, 4, none⟩) (Kd.R_far (p := ⟨gb201, 3, none⟩) (Kd.R_far (p := ⟨gb201, 2, none⟩) (Kd.R_far (p := ⟨gb201, 1, none⟩) (Kd.R_far (p := ⟨gb201, 0, none⟩) (Kd.R_types HO193.out BK201.out (by decide)) h2_ (.int .i64 t186)) h2_ (.string t187)) h2_ (.slice Ao43 t188.length co43)) h2_ (.slice Ao44 t191.length co44)) h2_ (.slice Ao45 t194.length co45)) h2_ (.slice Ao46 t197.length co46)) h2_ (.int .i64 t200)) h1_)))) (Kd.R_lt (by (with_reducible repeat (first | apply rA | apply rN | apply rD)); exact (Kd.R_mono (Kd.R_far (p := ⟨gb201, 6, none⟩) (Kd.R_far (p := ⟨gb201, 5, none⟩) (Kd.R_far (p := ⟨gb201, 4, none⟩) (Kd.R_far (p := ⟨gb201, 3, none⟩) (Kd.R_far (p := ⟨gb201, 2, none⟩) (Kd.R_far (p := ⟨gb201, 1, none⟩) (Kd.R_far (p := ⟨gb201, 0, none⟩) (Kd.R_types HO196.out BK201.out (by decide)) h2_ (.int .i64 t186)) h2_ (.string t187)) h2_ (.slice Ao43 t188.length co43)) h2_ (.slice Ao44 t191.length co44)) h2_ (.slice Ao45 t194.length co45)) h2_ (.slice Ao46 t197.length co46)) h2_ (.int .i64 t200)) h1_)))) (Kd.R_lt (by (with_reducible repeat (first | apply rA | apply rN | apply rD)); exact (Kd.R_mono (Kd.R_far (p := ⟨gb201, 6, none⟩) (Kd.R_far (p := ⟨gb201, 5, none⟩) (Kd.R_far (p := ⟨gb201, 4, none⟩) (Kd.R_far (p := ⟨gb201, 3, none⟩) (Kd.R_far (p := ⟨gb201, 2, none⟩) (Kd.R_far (p := ⟨gb201, 1, none⟩) (Kd.R_far (p := ⟨gb201, 0, none⟩) (Kd.R_types HO199.out BK201.out (by decide)) h2_ (.int .i64 t186)) h2_ (.string t187)) h2_ (.slice Ao43 t188.length co43)) h2_ (.slice Ao44 t191.length co44)) h2_ (.slice Ao45 t194.length co45)) h2_ (.slice Ao46 t197.length co46)) h2_ (.int .i64 t200)) h1_)))) (below_size (by repeat (first | (with_reducible first | exact HB.out | apply below_alloc | apply pw_below_drewN | apply below_drew1 | refine below_set ?_ GE151.out | refine below_set ?_ GE152.out | refine below_set ?_ GE201.out) | exact HB.out)))); have n14_ := aM (Kd.R_lower (Kd.R_new' (Kd.R_new' (Kd.R_new' (Kd.R_new' (Kd.R_new' (Kd.R_new' (Kd.R_new' (Kd.R_new' (Kd.R_new' (Kd.R_new' (Kd.R_new' (Kd.R_new' ho2 (Kd.R_lt (by (with_reducible repeat (first | apply rA | apply rN | apply rD)); exact (Kd.R_mono (Kd.R_far (p := ⟨gb201, 6, none⟩) (Kd.R_far (p := ⟨gb201, 5, none⟩) (Kd.R_far (p := ⟨gb201, 4, none⟩) (Kd.R_far (p := ⟨gb201, 3, none⟩) (Kd.R_far (p := ⟨gb201, 2, none⟩) (Kd.R_far (p := ⟨gb201, 1, none⟩) (Kd.R_far (p := ⟨gb201, 0, none⟩) (Kd.R_types HO159.out BK201.out (by decide)) h2_ (.int .i64 t186)) h2_ (.string t187)) h2_ (.slice Ao43 t188.length co43)) h2_ (.slice Ao44 t191.length co44)) h2_ (.slice Ao45 t194.length co45)) h2_ (.slice Ao46 t197.length co46)) h2_ (.int .i64 t200)) h1_)))) (Kd.R_lt (by (with_reducible repeat (first | apply rA | apply rN | apply rD)); exact (Kd.R_mono (Kd.R_far (p := ⟨gb201, 6, none⟩) (Kd.R_far (p := ⟨gb201, 5, none⟩) (Kd.R_far (p := ⟨gb201, 4, none⟩) (Kd.R_far (p := ⟨gb201, 3, none⟩) (Kd.R_far (p := ⟨gb201, 2, none⟩) (Kd.R_far (p := ⟨gb201, 1, none⟩) (Kd.R_far (p := ⟨gb201, 0, none⟩) (Kd.R_types HO162.out BK201.out (by decide)) h2_ (.int .i64 t186)) h2_ (.string t187)) h2_ (.slice Ao43 t188.length co43)) h2_ (.slice Ao44 t191.length co44)) h2_ (.slice Ao45 t194.length co45)) h2_ (.slice Ao46 t197.length co46)) h2_ (.int .i64 t200)) h1_)))) (Kd.R_lt (by (with_reducible repeat (first | apply rA | apply rN | apply rD)); exact (Kd.R_mono (Kd.R_far (p := ⟨gb201, 6, none⟩) (Kd.R_far (p := ⟨gb201, 5, none⟩) (Kd.R_far (p := ⟨gb201, 4, none⟩) (Kd.R_far (p := ⟨gb201, 3, none⟩) (Kd.R_far (p := ⟨gb201, 2, none⟩) (Kd.R_far (p := ⟨gb201, 1, none⟩) (Kd.R_far (p := ⟨gb201, 0, none⟩) (Kd.R_types HO165.out BK201.out (by decide)) h2_ (.int .i64 t186)) h2_ (.string t187)) h2_ (.slice Ao43 t188.length co43)) h2_ (.slice Ao44 t191.length co44)) h2_ (.slice Ao45 t194.length co45)) h2_ (.slice Ao46 t197.length co46)) h2_ (.int .i64 t200)) h1_)))) (Kd.R_lt (by (with_reducible repeat (first | apply rA | apply rN | apply rD)); exact (Kd.R_mono (Kd.R_far (p := ⟨gb201, 6, none⟩) (Kd.R_far (p := ⟨gb201, 5, none⟩) (Kd.R_far (p := ⟨gb201, 4, none⟩) (Kd.R_far (p := ⟨gb201, 3, none⟩) (Kd.R_far (p := ⟨gb201, 2, none⟩) (Kd.R_far (p := ⟨gb201, 1, none⟩) (Kd.R_far (p := ⟨gb201, 0, none⟩) (Kd.R_types HO168.out BK201.out (by decide)) h2_ (.int .i64 t186)) h2_ (.string t187)) h2_ (.slice Ao43 t188.length co43)) h2_ (.slice Ao44 t191.length co44)) h2_ (.slice Ao45 t194.length co45)) h2_ (.slice Ao46 t197.length co46)) h2_ (.int .i64 t200)) h1_)))) (Kd.R_lt (by (with_reducible repeat (first | apply rA | apply rN | apply rD)); exact (Kd.R_mono (Kd.R_far (p := ⟨gb201, 6, none⟩) (Kd.R_far (p := ⟨gb201, 5, none⟩) (Kd.R_far (p := ⟨gb201, 4, none⟩) (Kd.R_far (p := ⟨gb201, 3, none⟩) (Kd.R_far (p := ⟨gb201, 2, none⟩) (Kd.R_far (p := ⟨gb201, 1, none⟩) (Kd.R_far (p := ⟨gb201, 0, none⟩) (Kd.R_types HO174.out BK201.out (by decide)) h2_ (.int .i64 t186)) h2_ (.string t187)) h2_ (.slice Ao43 t188.length co43)) h2_ (.slice Ao44 t191.length co44)) h2_ (.slice Ao45 t194.length co45)) h2_ (.slice Ao46 t197.length co46)) h2_ (.int .i64 t200)) h1_)))) (Kd.R_lt (by (with_reducible repeat (first | apply rA | apply rN | apply rD)); exact (Kd.R_mono (Kd.R_far (p := ⟨gb201, 6, none⟩) (Kd.R_far (p := ⟨gb201, 5, none⟩) (Kd.R_far (p := ⟨gb201, 4, none⟩) (Kd.R_far (p := ⟨gb201, 3, none⟩) (Kd.R_far (p := ⟨gb201, 2, none⟩) (Kd.R_far (p := ⟨gb201, 1, none⟩) (Kd.R_far (p := ⟨gb201, 0, none⟩) (Kd.R_types HO177.out BK201.out (by decide)) h2_ (.int .i64 t186)) h2_ (.string t187)) h2_ (.slice Ao43 t188.length co43)) h2_ (.slice Ao44 t191.length co44)) h2_ (.slice Ao45 t194.length co45)) h2_ (.slice Ao46 t197.length co46)) h2_ (.int .i64 t200)) h1_)))) (Kd.R_lt (by (with_reducible repeat (first | apply rA | apply rN | apply rD)); exact (Kd.R_mono (Kd.R_far (p := ⟨gb201, 6, none⟩) (Kd.R_far (p := ⟨gb201, 5, none⟩) (Kd.R_far (p := ⟨gb201, 4, none⟩) (Kd.R_far (p := ⟨gb201, 3, none⟩) (Kd.R_far (p := ⟨gb201, 2, none⟩) (Kd.R_far (p := ⟨gb201, 1, none⟩) (Kd.R_far (p := ⟨gb201, 0, none⟩) (Kd.R_types HO180.out BK201.out (by decide)) h2_ (.int .i64 t186)) h2_ (.string t187)) h2_ (.slice Ao43 t188.length co43)) h2_ (.slice Ao44 t191.length co44)) h2_ (.slice Ao45 t194.length co45)) h2_ (.slice Ao46 t197.length co46)) h2_ (.int .i64 t200)) h1_)))) (Kd.R_lt (by (with_reducible repeat (first | apply rA | apply rN | apply rD)); exact (Kd.R_mono (Kd.R_far (p := ⟨gb201, 6, none⟩) (Kd.R_far (p := ⟨gb201, 5, none⟩) (Kd.R_far (p := ⟨gb201, 4, none⟩) (Kd.R_far (p := ⟨gb201, 3, none⟩) (Kd.R_far (p := ⟨gb201, 2, none⟩) (Kd.R_far (p := ⟨gb201, 1, none⟩) (Kd.R_far (p := ⟨gb201, 0, none⟩) (Kd.R_types HO183.out BK201.out (by decide)) h2_ (.int .i64 t186)) h2_ (.string t187)) h2_ (.slice Ao43 t188.length co43)) h2_ (.slice Ao44 t191.length co44)) h2_ (.slice Ao45 t194.length co45)) h2_ (.slice Ao46 t197.length co46)) h2_ (.int .i64 t200)) h1_)))) (Kd.R_lt (by (with_reducible repeat (first | apply rA | apply rN | apply rD)); exact (Kd.R_mono (Kd.R_far (p := ⟨gb201, 6, none⟩) (Kd.R_far (p := ⟨gb201, 5, none⟩) (Kd.R_far (p := ⟨gb201, 4, none⟩) (Kd.R_far (p := ⟨gb201, 3, none⟩) (Kd.R_far (p := ⟨gb201, 2, none⟩) (Kd.R_far (p := ⟨gb201, 1, none⟩) (Kd.R_far (p := ⟨gb201, 0, none⟩) (Kd.R_types HO190.out BK201.out (by decide)) h2_ (.int .i64 t186)) h2_ (.string t187)) h2_ (.slice Ao43 t188.length co43)) h2_ (.slice Ao44 t191.length co44)) h2_ (.slice Ao45 t194.length co45)) h2_ (.slice Ao46 t197.length co46)) h2_ (.int .i64 t200)) h1_)))) (Kd.R_lt (by (with_reducible repeat (first | apply rA | apply rN | apply rD)); exact (Kd.R_mono (Kd.R_far (p := ⟨gb201, 6, none⟩) (Kd.R_far (p := ⟨gb201, 5, none⟩) (Kd.R_far (p := ⟨gb201, 4, none⟩) (Kd.R_far (p := ⟨gb201, 3, none⟩) (Kd.R_far (p := ⟨gb201, 2, none⟩) (Kd.R_far (p := ⟨gb201, 1, none⟩) (Kd.R_far (p := ⟨gb201, 0, none⟩) (Kd.R_types HO193.out BK201.out (by decide)) h2_ (.int .i64 t186)) h2_ (.string t187)) h2_ (.slice Ao43 t188.length co43)) h2_ (.slice Ao44 t191.length co44)) h2_ (.slice Ao45 t194.length co45)) h2_ (.slice Ao46 t197.length co46)) h2_ (.int .i64 t200)) h1_)))) (Kd.R_lt (by (with_reducible repeat (first | apply rA | apply rN | apply rD)); exact (Kd.R_mono (Kd.R_far (p := ⟨gb201, 6, none⟩) (Kd.R_far (p := ⟨gb201, 5, none⟩) (Kd.R_far (p := ⟨gb201, 4, none⟩) (Kd.R_far (p := ⟨gb201, 3, none⟩) (Kd.R_far (p := ⟨gb201, 2, none⟩) (Kd.R_far (p := ⟨gb201, 1, none⟩) (Kd.R_far (p := ⟨gb201, 0, none⟩) (Kd.R_types HO196.out BK201.out (by decide)) h2_ (.int .i64 t186)) h2_ (.string t187)) h2_ (.slice Ao43 t188.length co43)) h2_ (.slice Ao44 t191.length co44)) h2_ (.slice Ao45 t194.length co45)) h2_ (.slice Ao46 t197.length co46)) h2_ (.int .i64 t200)) h1_)))) (Kd.R_lt (by (with_reducible repeat (first | apply rA | apply rN | apply rD)); exact (Kd.R_mono (Kd.R_far (p := ⟨gb201, 6, none⟩) (Kd.R_far (p := ⟨gb201, 5, none⟩) (Kd.R_far (p := ⟨gb201, 4, none⟩) (Kd.R_far (p := ⟨gb201, 3, none⟩) (Kd.R_far (p := ⟨gb201, 2, none⟩) (Kd.R_far (p := ⟨gb201, 1, none⟩) (Kd.R_far (p := ⟨gb201, 0, none⟩) (Kd.R_types HO199.out BK201.out (by decide)) h2_ (.int .i64 t186)) h2_ (.string t187)) h2_ (.slice Ao43 t188.length co43)) h2_ (.slice Ao44 t191.length co44)) h2_ (.slice Ao45 t194.length co45)) h2_ (.slice Ao46 t197.length co46)) h2_ (.int .i64 t200)) h1_)))) (below_size (by repeat (first | (with_reducible first | exact HB.out | apply below_alloc | apply pw_below_drewN | apply below_drew1 | refine below_set ?_ GE151.out | refine below_set ?_ GE152.out | refine below_set ?_ GE201.out) | exact HB.out)))); have n15_ := aM (Kd.R_lower (Kd.R_new' (Kd.R_new' (Kd.R_new' (Kd.R_new' (Kd.R_new' (Kd.R_new' (Kd.R_new' (Kd.R_new' (Kd.R_new' (Kd.R_new' (Kd.R_new' (Kd.R_new' ho3 (Kd.R_lt (by (with_reducible repeat (first | apply rA | apply rN | apply rD)); exact (Kd.R_mono (Kd.R_far (p := ⟨gb201, 6, none⟩) (Kd.R_far (p := ⟨gb201, 5, none⟩) (Kd.R_far (p := ⟨gb201, 4, none⟩) (Kd.R_far (p := ⟨gb201, 3, none⟩) (Kd.R_far (p := ⟨gb201, 2, none⟩) (Kd.R_far (p := ⟨gb201, 1, none⟩) (Kd.R_far (p := ⟨gb201, 0, none⟩) (Kd.R_types HO159.out BK201.out (by decide)) h2_ (.int .i64 t186)) h2_ (.string t187)) h2_ (.slice Ao43 t188.length co43)) h2_ (.slice Ao44 t191.length co44)) h2_ (.slice Ao45 t194.length co45)) h2_ (.slice Ao46 t197.length co46)) h2_ (.int .i64 t200)) h1_)))) (Kd.R_lt (by (with_reducible repeat (first | apply rA | apply rN | apply rD)); exact (Kd.R_mono (Kd.R_far (p := ⟨gb201, 6, none⟩) (Kd.R_far (p := ⟨gb201, 5, none⟩) (Kd.R_far (p := ⟨gb201, 4, none⟩) (Kd.R_far (p := ⟨gb201, 3, none⟩) (Kd.R_far (p := ⟨gb201, 2, none⟩) (Kd.R_far (p := ⟨gb201, 1, none⟩) (Kd.R_far (p := ⟨gb201, 0, none⟩) (Kd.R_types HO162.out BK201.out (by decide)) h2_ (.int .i64 t186)) h2_ (.string t187)) h2_ (.slice Ao43 t188.length co43)) h2_ (.slice Ao44 t191.length co44)) h2_ (.slice Ao45 t194.length co45)) h2_ (.slice Ao46 t197.length co46)) h2_ (.int .i64 t200)) h1_)))) (Kd.R_lt (by (with_reducible repeat (first | apply rA | apply rN | apply rD)); exact (Kd.R_mono (Kd.R_far (p := ⟨gb201, 6, none⟩) (Kd.R_far (p := ⟨gb201, 5, none⟩) (Kd.R_far (p := ⟨gb201, 4, none⟩) (Kd.R_far (p := ⟨gb201, 3, none⟩) (Kd.R_far (p := ⟨gb201, 2, none⟩) (Kd.R_far (p := ⟨gb201, 1, none⟩) (Kd.R_far (p := ⟨gb201, 0, none⟩) (Kd.R_types HO165.out BK201.out (by decide)) h2_ (.int .i64 t186)) h2_ (.string t187)) h2_ (.slice Ao43 t188.length co43)) h2_ (.slice Ao44 t191.length co44)) h2_ (.slice Ao45 t194.length co45)) h2_ (.slice Ao46 t197.length co46)) h2_ (.int .i64 t200)) h1_)))) (Kd.R_lt (by (with_reducible repeat (first | apply rA | apply rN | apply rD)); exact (Kd.R_mono (Kd.R_far (p := ⟨gb201, 6, none⟩) (Kd.R_far (p := ⟨gb201, 5, none⟩) (Kd.R_far (p := ⟨gb201, 4, none⟩) (Kd.R_far (p := ⟨gb201, 3, none⟩) (Kd.R_far (p := ⟨gb201, 2, none⟩) (Kd.R_far (p := ⟨gb201, 1, none⟩) (Kd.R_far (p := ⟨gb201, 0, none⟩) (Kd.R_types HO168.out BK201.out (by decide)) h2_ (.int .i64 t186)) h2_ (.string t187)) h2_ (.slice Ao43 t188.length co43)) h2_ (.slice Ao44 t191.length co44)) h2_ (.slice Ao45 t194.length co45)) h2_ (.slice Ao46 t197.length co46)) h2_ (.int .i64 t200)) h1_)))) (Kd.R_lt (by (with_reducible repeat (first | apply rA | apply rN | apply rD)); exact (Kd.R_mono (Kd.R_far (p := ⟨gb201, 6, none⟩) (Kd.R_far (p := ⟨gb201, 5, none⟩) (Kd.R_far (p := ⟨gb201, 4, none⟩) (Kd.R_far (p := ⟨gb201, 3, none⟩) (Kd.R_far (p := ⟨gb201, 2, none⟩) (Kd.R_far (p := ⟨gb201, 1, none⟩) (Kd.R_far (p := ⟨gb201, 0, none⟩) (Kd.R_types HO174.out BK201.out (by decide)) h2_ (.int .i64 t186)) h2_ (.string t187)) h2_ (.slice Ao43 t188.length co43)) h2_ (.slice Ao44 t191.length co44)) h2_ (.slice Ao45 t194.length co45)) h2_ (.slice Ao46 t197.length co46)) h2_ (.int .i64 t200)) h1_)))) (Kd.R_lt (by (with_reducible repeat (first | apply rA | apply rN | apply rD)); exact (Kd.R_mono (Kd.R_far (p := ⟨gb201, 6, none⟩) (Kd.R_far (p := ⟨gb201, 5, none⟩) (Kd.R_far (p := ⟨gb201, 4, none⟩) (Kd.R_far (p := ⟨gb201, 3, none⟩) (Kd.R_far (p := ⟨gb201, 2, none⟩) (Kd.R_far (p := ⟨gb201, 1, none⟩) (Kd.R_far (p := ⟨gb201, 0, none⟩) (Kd.R_types HO177.out BK201.out (by decide)) h2_ (.int .i64 t186)) h2_ (.string t187)) h2_ (.slice Ao43 t188.length co43)) h2_ (.slice Ao44 t191.length co44)) h2_ (.slice Ao45 t194.length co45)) h2_ (.slice Ao46 t197.length co46)) h2_ (.int .i64 t200)) h1_)))) (Kd.R_lt (by (with_reducible repeat (first | apply rA | apply rN | apply rD)); exact (Kd.R_mono (Kd.R_far (p := ⟨gb201, 6, none⟩) (Kd.R_far (p := ⟨gb201, 5, none⟩) (Kd.R_far (p := ⟨gb201, 4, none⟩) (Kd.R_far (p := ⟨gb201, 3, none⟩) (Kd.R_far (p := ⟨gb201, 2, none⟩) (Kd.R_far (p := ⟨gb201, 1, none⟩) (Kd.R_far (p := ⟨gb201, 0, none⟩) (Kd.R_types HO180.out BK201.out (by decide)) h2_ (.int .i64 t186)) h2_ (.string t187)) h2_ (.slice Ao43 t188.length co43)) h2_ (.slice Ao44 t191.length co44)) h2_ (.slice Ao45 t194.length co45)) h2_ (.slice Ao46 t197.length co46)) h2_ (.int .i64 t200)) h1_)))) (Kd.R_lt (by (with_reducible repeat (first | apply rA | apply rN | apply rD)); exact (Kd.R_mono (Kd.R_far (p := ⟨gb201, 6, none⟩) (Kd.R_far (p := ⟨gb201, 5, none⟩) (Kd.R_far (p := ⟨gb201, 4, none⟩) (Kd.R_far (p := ⟨gb201, 3, none⟩) (Kd.R_far (p := ⟨gb201, 2, none⟩) (Kd.R_far (p := ⟨gb201, 1, none⟩) (Kd.R_far (p := ⟨gb201, 0, none⟩) (Kd.R_types HO183.out BK201.out (by decide)) h2_ (.int .i64 t186)) h2_ (.string t187)) h2_ (.slice Ao43 t188.length co43)) h2_ (.slice Ao44 t191.length co44)) h2_ (.slice Ao45 t194.length co45)) h2_ (.slice Ao46 t197.length co46)) h2_ (.int .i64 t200)) h1_)))) (Kd.R_lt (by (with_reducible repeat (first | apply rA | apply rN | apply rD)); exact (Kd.R_mono (Kd.R_far (p := ⟨gb201, 6, none⟩) (Kd.R_far (p := ⟨gb201, 5, none⟩) (Kd.R_far (p := ⟨gb201, 4, none⟩) (Kd.R_far (p := ⟨gb201, 3, none⟩) (Kd.R_far (p := ⟨gb201, 2, none⟩) (Kd.R_far (p := ⟨gb201, 1, none⟩) (Kd.R_far (p := ⟨gb201, 0, none⟩) (Kd.R_types HO190.out BK201.out (by decide)) h2_ (.int .i64 t186)) h2_ (.string t187)) h2_ (.slice Ao43 t188.length co43)) h2_ (.slice Ao44 t191.length co44)) h2_ (.slice Ao45 t194.length co45)) h2_ (.slice Ao46 t197.length co46)) h2_ (.int .i64 t200)) h1_)))) (Kd.R_lt (by (with_reducible repeat (first | apply rA | apply rN | apply rD)); exact (Kd.R_mono (Kd.R_far (p := ⟨gb201, 6, none⟩) (Kd.R_far (p := ⟨gb201, 5, none⟩) (Kd.R_far (p := ⟨gb201, 4, none⟩) (Kd.R_far (p := ⟨gb201, 3, none⟩) (Kd.R_far (p := ⟨gb201, 2, none⟩) (Kd.R_far (p := ⟨gb201, 1, none⟩) (Kd.R_far (p := ⟨gb201, 0, none⟩) (Kd.R_types HO193.out BK201.out (by decide)) h2_ (.int .i64 t186)) h2_ (.string t187)) h2_ (.slice Ao43 t188.length co43)) h2_ (.slice Ao44 t191.length co44)) h2_ (.slice Ao45 t194.length co45)) h2_ (.slice Ao46 t197.length co46)) h2_ (.int .i64 t200)) h1_)))) (Kd.R_lt (by (with_reducible repeat (first | apply rA | apply rN | apply rD)); exact (Kd.R_mono (Kd.R_far (p := ⟨gb201, 6, none⟩) (Kd.R_far (p := ⟨gb201, 5, none⟩) (Kd.R_far (p := ⟨gb201, 4, none⟩) (Kd.R_far (p := ⟨gb201, 3, none⟩) (Kd.R_far (p := ⟨gb201, 2, none⟩) (Kd.R_far (p := ⟨gb201, 1, none⟩) (Kd.R_far (p := ⟨gb201, 0, none⟩) (Kd.R_types HO196.out BK201.out (by decide)) h2_ (.int .i64 t186)) h2_ (.string t187)) h2_ (.slice Ao43 t188.length co43)) h2_ (.slice Ao44 t191.length co44)) h2_ (.slice Ao45 t194.length co45)) h2_ (.slice Ao46 t197.length co46)) h2_ (.int .i64 t200)) h1_)))) (Kd.R_lt (by (with_reducible repeat (first | apply rA | apply rN | apply rD)); exact (Kd.R_mono (Kd.R_far (p := ⟨gb201, 6, none⟩) (Kd.R_far (p := ⟨gb201, 5, none⟩) (Kd.R_far (p := ⟨gb201, 4, none⟩) (Kd.R_far (p := ⟨gb201, 3, none⟩) (Kd.R_far (p := ⟨gb201, 2, none⟩) (Kd.R_far (p := ⟨gb201, 1, none⟩) (Kd.R_far (p := ⟨gb201, 0, none⟩) (Kd.R_types HO199.out BK201.out (by decide)) h2_ (.int .i64 t186)) h2_ (.string t187)) h2_ (.slice Ao43 t188.length co43)) h2_ (.slice Ao44 t191.length co44)) h2_ (.slice Ao45 t194.length co45)) h2_ (.slice Ao46 t197.length co46)) h2_ (.int .i64 t200)) h1_)))) (below_size (by repeat (first | (with_reducible first | exact HB.out | apply below_alloc | apply pw_below_drewN | apply below_drew1 | refine below_set ?_ GE151.out | refine below_set ?_ GE152.out | refine below_set ?_ GE201.out) | exact HB.out)))); have n16_ := aM (blk_below (g := gb151) (o := .cells #[.int .i64 a0_0, .string a0_1, .slice A0_2 l0_2.length c0_2, .slice A0_3 l0_3.length c0_3, .slice A0_4 l0_4.length c0_4, .slice A0_5 l0_5.length c0_5, .int .i64 a0_6] 50 (0, 0)) (by (with_reducible repeat (first | refine blk_drewN ?_ _ | refine blk_drew ?_ | refine blk_alloc ?_ _)); refine blk_far ?_ NB151_201.out _; (with_reducible repeat (first | refine blk_drewN ?_ _ | refine blk_drew ?_ | refine blk_alloc ?_ _)); refine blk_far ?_ NB151_201.out _; (with_reducible repeat (first | refine blk_drewN ?_ _ | refine blk_drew ?_ | refine blk_alloc ?_ _)); refine blk_far ?_ NB151_201.out _; (with_reducible repeat (first | refine blk_drewN ?_ _ | refine blk_drew ?_ | refine blk_alloc ?_ _)); refine blk_far ?_ NB151_201.out _; (with_reducible repeat (first | refine blk_drewN ?_ _ | refine blk_drew ?_ | refine blk_alloc ?_ _)); refine blk_far ?_ NB151_201.out _; (with_reducible repeat (first | refine blk_drewN ?_ _ | refine blk_drew ?_ | refine blk_alloc ?_ _)); refine blk_far ?_ NB151_201.out _; (with_reducible repeat (first | refine blk_drewN ?_ _ | refine blk_drew ?_ | refine blk_alloc ?_ _)); refine blk_far ?_ NB151_201.out _; (with_reducible repeat (first | refine blk_drewN ?_ _ | refine blk_drew ?_ | refine blk_alloc ?_ _)); exact BK151.out) hb); have n17_ := aM (blk_below (g := gb152) (o := .cells #[.int .i64 a1_0, .string a1_1, .slice A1_2 l1_2.length c1_2, .slice A1_3 l1_3.length c1_3, .slice A1_4 l1_4.length c1_4, .slice A1_5 l1_5.length c1_5, .int .i64 a1_6] 50 (0, 0)) (by (with_reducible repeat (first | refine blk_drewN ?_ _ | refine blk_drew ?_ | refine blk_alloc ?_ _)); refine blk_far ?_ NB152_201.out _; (with_reducible repeat (first | refine blk_drewN ?_ _ | refine blk_drew ?_ | refine blk_alloc ?_ _)); refine blk_far ?_ NB152_201.out _; (with_reducible repeat (first | refine blk_drewN ?_ _ | refine blk_drew ?_ | refine blk_alloc ?_ _)); refine blk_far ?_ NB152_201.out _; (with_reducible repeat (first | refine blk_drewN ?_ _ | refine blk_drew ?_ | refine blk_alloc ?_ _)); refine blk_far ?_ NB152_201.out _; (with_reducible repeat (first | refine blk_drewN ?_ _ | refine blk_drew ?_ | refine blk_alloc ?_ _)); refine blk_far ?_ NB152_201.out _; (with_reducible repeat (first | refine blk_drewN ?_ _ | refine blk_drew ?_ | refine blk_alloc ?_ _)); refine blk_far ?_ NB152_201.out _; (with_reducible repeat (first | refine blk_drewN ?_ _ | refine blk_drew ?_ | refine blk_alloc ?_ _)); refine blk_far ?_ NB152_201.out _; (with_reducible repeat (first | refine blk_drewN ?_ _ | refine blk_drew ?_ | refine blk_alloc ?_ _)); exact BK152.out) hb); have n18_ := aM (blk_below (g := gb201) (o := .cells #[.int .i64 t186, .string t187, .slice Ao43 t188.length co43, .slice Ao44 t191.length co44, .slice Ao45 t194.length co45, .slice Ao46 t197.length co46, .int .i64 t200] 53 (0, 0)) (by (with_reducible repeat (first | refine blk_drewN ?_ _ | refine blk_drew ?_ | refine blk_alloc ?_ _)); refine blk_put (cs := #[.int .i64 t186, .string t187, .slice Ao43 t188.length co43, .slice Ao44 t191.length co44, .slice Ao45 t194.length co45, .slice Ao46 t197.length co46, .int .i64 0]) ?_ 6 _ rfl; (with_reducible repeat (first | refine blk_drewN ?_ _ | refine blk_drew ?_ | refine blk_alloc ?_ _)); refine blk_put (cs := #[.int .i64 t186, .string t187, .slice Ao43 t188.length co43, .slice Ao44 t191.length co44, .slice Ao45 t194.length co45, .slice none 0 0, .int .i64 0]) ?_ 5 _ rfl; (with_reducible repeat (first | refine blk_drewN ?_ _ | refine blk_drew ?_ | refine blk_alloc ?_ _)); refine blk_put (cs := #[.int .i64 t186, .string t187, .slice Ao43 t188.length co43, .slice Ao44 t191.length co44, .slice none 0 0, .slice none 0 0, .int .i64 0]) ?_ 4 _ rfl; (with_reducible repeat (first | refine blk_drewN ?_ _ | refine blk_drew ?_ | refine blk_alloc ?_ _)); refine blk_put (cs := #[.int .i64 t186, .string t187, .slice Ao43 t188.length co43, .slice none 0 0, .slice none 0 0, .slice none 0 0, .int .i64 0]) ?_ 3 _ rfl; (with_reducible repeat (first | refine blk_drewN ?_ _ | refine blk_drew ?_ | refine blk_alloc ?_ _)); refine blk_put (cs := #[.int .i64 t186, .string t187, .slice none 0 0, .slice none 0 0, .slice none 0 0, .slice none 0 0, .int .i64 0]) ?_ 2 _ rfl; (with_reducible repeat (first | refine blk_drewN ?_ _ | refine blk_drew ?_ | refine blk_alloc ?_ _)); refine blk_put (cs := #[.int .i64 t186, .string (⟨#[]⟩ : ByteArray), .slice none 0 0, .slice none 0 0, .slice none 0 0, .slice none 0 0, .int .i64 0]) ?_ 1 _ rfl; (with_reducible repeat (first | refine blk_drewN ?_ _ | refine blk_drew ?_ | refine blk_alloc ?_ _)); refine blk_put (cs := #[.int .i64 0, .string (⟨#[]⟩ : ByteArray), .slice none 0 0, .slice none 0 0, .slice none 0 0, .slice none 0 0, .int .i64 0]) ?_ 0 _ rfl; (with_reducible repeat (first | refine blk_drewN ?_ _ | refine blk_drew ?_ | refine blk_alloc ?_ _)); exact BK201.out) hb); have n19_ := aM (below_step (by repeat (first | (with_reducible first | exact HB.out | apply below_alloc | apply pw_below_drewN | apply below_drew1 | refine below_set ?_ GE151.out | refine below_set ?_ GE152.out | refine below_set ?_ GE201.out) | exact HB.out)) hb); clear HO159; clear HO162; clear HO165; clear HO168; clear HO174; clear HO177; clear HO180; clear HO183; clear HO190; clear HO193; clear HO196; clear HO199; clear BK151; clear BK152; clear BK201; clear HB; have HO159 := n0_; have HO162 := n1_; have HO165 := n2_; have HO168 := n3_; have HO174 := n4_; have HO177 := n5_; have HO180 := n6_; have HO183 := n7_; have HO190 := n8_; have HO193 := n9_; have HO196 := n10_; have HO199 := n11_; have HO206 := n12_; have HO209 := n13_; have HO212 := n14_; have HO215 := n15_; have BK151 := n16_; have BK152 := n17_; have BK201 := n18_; have HB := n19_; clear n0_ n1_ n2_ n3_ n4_ n5_ n6_ n7_ n8_ n9_ n10_ n11_ n12_ n13_ n14_ n15_ n16_ n17_ n18_ n19_; (try clear hb); (try clear hb2); (try clear hk); (try clear hi); (try clear ho0); (try clear ho1); (try clear ho2); (try clear ho3)) | ((with_reducible refine gate_dst (N := 8) rfl ?_); refine box_event ?hg (N := 8) ?hd (cs := #[.int .i64 0, .string (⟨#[]⟩ : ByteArray), .slice none 0 0, .slice none 0 0, .slice none 0 0, .slice none 0 0, .int .i64 0]) (t := 53) ?hr ?_; (case hd => rfl); (case hg => rfl); (case hr => first | (go_simp; done) | (go_simp; rfl)); intro gb217 hg w49 hbox hb; have n0_ := aM (Kd.R_below (by (with_reducible repeat (first | apply rA | apply rN | apply rD)); exact HO159.out) hb); have n1_ := aM (Kd.R_below (by (with_reducible repeat (first | apply rA | apply rN | apply rD)); exact HO162.out) hb); have n2_ := aM (Kd.R_below (by (with_reducible repeat (first | apply rA | apply rN | apply rD)); exact HO165.out) hb); have n3_ := aM (Kd.R_below (by (with_reducible repeat (first | apply rA | apply rN | apply rD)); exact HO168.out) hb); have n4_ := aM (Kd.R_below (by (with_reducible repeat (first | apply rA | apply rN | apply rD)); exact HO174.out) hb); have n5_ := aM (Kd.R_below (by (with_reducible repeat (first | apply rA | apply rN | apply rD)); exact HO177.out) hb); have n6_ := aM (Kd.R_below (by (with_reducible repeat (first | apply rA | apply rN | apply rD)); exact HO180.out) hb); have n7_ := aM (Kd.R_below (by (with_reducible repeat (first | apply rA | apply rN | apply rD)); exact HO183.out) hb); have n8_ := aM (Kd.R_below (by (with_reducible repeat (first | apply rA | apply rN | apply rD)); exact HO190.out) hb); have n9_ := aM (Kd.R_below (by (with_reducible repeat (first | apply rA | apply rN | apply rD)); exact HO193.out) hb); have n10_ := aM (Kd.R_below (by (with_reducible repeat (first | apply rA | apply rN | apply rD)); exact HO196.out) hb); have n11_ := aM (Kd.R_below (by (with_reducible repeat (first | apply rA | apply rN | apply rD)); exact HO199.out) hb); have n12_ := aM (Kd.R_below (by (with_reducible repeat (first | apply rA | apply rN | apply rD)); exact HO206.out) hb); have n13_ := aM (Kd.R_below (by (with_reducible repeat (first | apply rA | apply rN | apply rD)); exact HO209.out) hb); have n14_ := aM (Kd.R_below (by (with_reducible repeat (first | apply rA | apply rN | apply rD)); exact HO212.out) hb); have n15_ := aM (Kd.R_below (by (with_reducible repeat (first | apply rA | apply rN | apply rD)); exact HO215.out) hb); have n16_ := aM (blk_below (g := gb151) (o := .cells #[.int .i64 a0_0, .string a0_1, .slice A0_2 l0_2.length c0_2, .slice A0_3 l0_3.length c0_3, .slice A0_4 l0_4.length c0_4, .slice A0_5 l0_5.length c0_5, .int .i64 a0_6] 50 (0, 0)) (by (with_reducible repeat (first | refine blk_drewN ?_ _ | refine blk_drew ?_ | refine blk_alloc ?_ _)); exact BK151.out) hb); have n17_ := aM (blk_below (g := gb152) (o := .cells #[.int .i64 a1_0, .string a1_1, .slice A1_2 l1_2.length c1_2, .slice A1_3 l1_3.length c1_3, .slice A1_4 l1_4.length c1_4, .slice A1_5 l1_5.length c1_5, .int .i64 a1_6] 50 (0, 0)) (by (with_reducible repeat (first | refine blk_drewN ?_ _ | refine blk_drew ?_ | refine blk_alloc ?_ _)); exact BK152.out) hb); have n18_ := aM (blk_below (g := gb201) (o := .cells #[.int .i64 t186, .string t187, .slice Ao43 t188.length co43, .slice Ao44 t191.length co44, .slice Ao45 t194.length co45, .slice Ao46 t197.length co46, .int .i64 t200] 53 (0, 0)) (by (with_reducible repeat (first | refine blk_drewN ?_ _ | refine blk_drew ?_ | refine blk_alloc ?_ _)); exact BK201.out) hb); have n19_ := aM (below_step (by repeat (first | (with_reducible first | exact HB.out | apply below_alloc | apply pw_below_drewN | apply below_drew1 | refine below_set ?_ GE151.out | refine below_set ?_ GE152.out | refine below_set ?_ GE201.out) | exact HB.out)) hb); have n20_ := aM (hbox); have n21_ := aM ((by rw [hg]; exact (below_size (by repeat (first | (with_reducible first | exact HB.out | apply below_alloc | apply pw_below_drewN | apply below_drew1 | refine below_set ?_ GE151.out | refine below_set ?_ GE152.out | refine below_set ?_ GE201.out) | exact HB.out))) : w.heap.size ≤ gb217)); have n22_ := aM ((by rw [hg]; exact (below_size (by repeat (first | (with_reducible first | exact HB.out | apply below_alloc | apply pw_below_drewN | apply below_drew1 | refine below_set ?_ GE151.out | refine below_set ?_ GE152.out | refine below_set ?_ GE201.out) | exact HB.out))) : w.heap.size ≤ gb217)); have n23_ := aM ((by rw [hg]; exact Nat.ne_of_lt (blk_lt (g := gb151) (o := .cells #[.int .i64 a0_0, .string a0_1, .slice A0_2 l0_2.length c0_2, .slice A0_3 l0_3.length c0_3, .slice A0_4 l0_4.length c0_4, .slice A0_5 l0_5.length c0_5, .int .i64 a0_6] 50 (0, 0)) (by (with_reducible repeat (first | refine blk_drewN ?_ _ | refine blk_drew ?_ | refine blk_alloc ?_ _)); exact BK151.out)) : gb151 ≠ gb217)); have n24_ := aM ((by rw [hg]; exact Nat.ne_of_gt (blk_lt (g := gb151) (o := .cells #[.int .i64 a0_0, .string a0_1, .slice A0_2 l0_2.length c0_2, .slice A0_3 l0_3.length c0_3, .slice A0_4 l0_4.length c0_4, .slice A0_5 l0_5.length c0_5, .int .i64 a0_6] 50 (0, 0)) (by (with_reducible repeat (first | refine blk_drewN ?_ _ | refine blk_drew ?_ | refine blk_alloc ?_ _)); exact BK151.out)) : gb217 ≠ gb151)); have n25_ := aM ((by rw [hg]; exact Nat.ne_of_lt (blk_lt (g := gb152) (o := .cells #[.int .i64 a1_0, .string a1_1, .slice A1_2 l1_2.length c1_2, .slice A1_3 l1_3.length c1_3, .slice A1_4 l1_4.length c1_4, .slice A1_5 l1_5.length c1_5, .int .i64 a1_6] 50 (0, 0)) (by (with_reducible repeat (first | refine blk_drewN ?_ _ | refine blk_drew ?_ | refine blk_alloc ?_ _)); exact BK152.out)) : gb152 ≠ gb217)); have n26_ := aM ((by rw [hg]; exact Nat.ne_of_gt (blk_lt (g := gb152) (o := .cells #[.int .i64 a1_0, .string a1_1, .slice A1_2 l1_2.length c1_2, .slice A1_3 l1_3.length c1_3, .slice A1_4 l1_4.length c1_4, .slice A1_5 l1_5.length c1_5, .int .i64 a1_6] 50 (0, 0)) (by (with_reducible repeat (first | refine blk_drewN ?_ _ | refine blk_drew ?_ | refine blk_alloc ?_ _)); exact BK152.out)) : gb217 ≠ gb152)); have n27_ := aM ((by rw [hg]; exact Nat.ne_of_lt (blk_lt (g := gb201) (o := .cells #[.int .i64 t186, .string t187, .slice Ao43 t188.length co43, .slice Ao44 t191.length co44, .slice Ao45 t194.length co45, .slice Ao46 t197.length co46, .int .i64 t200] 53 (0, 0)) (by (with_reducible repeat (first | refine blk_drewN ?_ _ | refine blk_drew ?_ | refine blk_alloc ?_ _)); exact BK201.out)) : gb201 ≠ gb217)); have n28_ := aM ((by rw [hg]; exact Nat.ne_of_gt (blk_lt (g := gb201) (o := .cells #[.int .i64 t186, .string t187, .slice Ao43 t188.length co43, .slice Ao44 t191.length co44, .slice Ao45 t194.length co45, .slice Ao46 t197.length co46, .int .i64 t200] 53 (0, 0)) (by (with_reducible repeat (first | refine blk_drewN ?_ _ | refine blk_drew ?_ | refine blk_alloc ?_ _)); exact BK201.out)) : gb217 ≠ gb201)); clear HO159; clear HO162; clear HO165; clear HO168; clear HO174; clear HO177; clear HO180; clear HO183; clear HO190; clear HO193; clear HO196; clear HO199; clear HO206; clear HO209; clear HO212; clear HO215; clear BK151; clear BK152; clear BK201; clear HB; have HO159 := n0_; have HO162 := n1_; have HO165 := n2_; have HO168 := n3_; have HO174 := n4_; have HO177 := n5_; have HO180 := n6_; have HO183 := n7_; have HO190 := n8_; have HO193 := n9_; have HO196 := n10_; have HO199 := n11_; have HO206 := n12_; have HO209 := n13_; have HO212 := n14_; have HO215 := n15_; have BK151 := n16_; have BK152 := n17_; have BK201 := n18_; have HB := n19_; have BK217 := n20_; have GW217 := n21_; have GE217 := n22_; have NB151_217 := n23_; have NB217_151 := n24_; have NB152_217 := n25_; have NB217_152 := n26_; have NB201_217 := n27_; have NB217_201 := n28_; clear n0_ n1_ n2_ n3_ n4_ n5_ n6_ n7_ n8_ n9_ n10_ n11_ n12_ n13_ n14_ n15_ n16_ n17_ n18_ n19_ n20_ n21_ n22_ n23_ n24_ n25_ n26_ n27_ n28_; clear hb hbox hg; have hnb50 := NB217_151.out; have hnc50 := NB151_217.out; have hnb51 := NB217_152.out; have hnc51 := NB152_217.out; have hnb52 := NB217_201.out; have hnc52 := NB201_217.out; have hcz53_0 : w49.cell? ⟨gb217, 0, none⟩ = some (.int .i64 0) := (blk_cell BK217.out 0).trans rfl; have hcz53_1 : w49.cell? ⟨gb217, 1, none⟩ = some (.string (⟨#[]⟩ : ByteArray)) := (blk_cell BK217.out 1).trans rfl; have hcz53_2 : w49.cell? ⟨gb217, 2, none⟩ = some (.slice none 0 0) := (blk_cell BK217.out 2).trans rfl; have hcz53_3 : w49.cell? ⟨gb217, 3, none⟩ = some (.slice none 0 0) := (blk_cell BK217.out 3).trans rfl; have hcz53_4 : w49.cell? ⟨gb217, 4, none⟩ = some (.slice none 0 0) := (blk_cell BK217.out 4).trans rfl; have hcz53_5 : w49.cell? ⟨gb217, 5, none⟩ = some (.slice none 0 0) := (blk_cell BK217.out 5).trans rfl; have hcz53_6 : w49.cell? ⟨gb217, 6, none⟩ = some (.int .i64 0) := (blk_cell BK217.out 6).trans rfl; have hfz53_0 := blk_frozen BK217.out 0; have hfz53_1 := blk_frozen BK217.out 1; have hfz53_2 := blk_frozen BK217.out 2; have hfz53_3 := blk_frozen BK217.out 3; have hfz53_4 := blk_frozen BK217.out 4; have hfz53_5 := blk_frozen BK217.out 5; have hfz53_6 := blk_frozen BK217.out 6; obtain ⟨Ao54, co54, eo54⟩ := Kd.R_slice HO206.out; subst eo54; obtain ⟨Ao55, co55, eo55⟩ := Kd.R_slice HO209.out; subst eo55; obtain ⟨Ao56, co56, eo56⟩ := Kd.R_slice HO212.out; subst eo56; obtain ⟨Ao57, co57, eo57⟩ := Kd.R_slice HO215.out; subst eo57; have hcz58_0 : w49.cell? ⟨gb201, 0, none⟩ = some (.int .i64 t186) := (blk_cell BK201.out 0).trans rfl; have hcz58_1 : w49.cell? ⟨gb201, 1, none⟩ = some (.string t187) := (blk_cell BK201.out 1).trans rfl; have hcz58_2 : w49.cell? ⟨gb201, 2, none⟩ = some (.slice Ao43 t188.length co43) := (blk_cell BK201.out 2).trans rfl; have hcz58_3 : w49.cell? ⟨gb201, 3, none⟩ = some (.slice Ao44 t191.length co44) := (blk_cell BK201.out 3).trans rfl; have hcz58_4 : w49.cell? ⟨gb201, 4, none⟩ = some (.slice Ao45 t194.length co45) := (blk_cell BK201.out 4).trans rfl; have hcz58_5 : w49.cell? ⟨gb201, 5, none⟩ = some (.slice Ao46 t197.length co46) := (blk_cell BK201.out 5).trans rfl; have hcz58_6 : w49.cell? ⟨gb201, 6, none⟩ = some (.int .i64 t200) := (blk_cell BK201.out 6).trans rfl; have hfz58_0 := blk_frozen BK201.out 0; have hfz58_1 := blk_frozen BK201.out 1; have hfz58_2 := blk_frozen BK201.out 2; have hfz58_3 := blk_frozen BK201.out 3; have hfz58_4 := blk_frozen BK201.out 4; have hfz58_5 := blk_frozen BK201.out 5; have hfz58_6 := blk_frozen BK201.out 6) | ((with_reducible refine gate_callee (f := 43) rfl ?_); refine goesL_ (some 31) rfl rfl Try.func43 (by kernel_rfl) rfl #[.agg #[.int .i64 t186, .string t187, .slice Ao43 t188.length co43, .slice Ao44 t191.length co44, .slice Ao45 t194.length co45, .slice Ao46 t197.length co46, .int .i64 t200], .agg #[.int .i64 t202, .string t203, .slice Ao54 t204.length co54, .slice Ao55 t207.length co55, .slice Ao56 t210.length co56, .slice Ao57 t213.length co57, .int .i64 t216]] rfl (by (try simp only [List.map_toArray, List.map_cons, List.map_nil]); first | done | rfl | (simp only [List.length_drop, List.length_take]; rfl)) ?_; (with_reducible refine (impl_SameLine.calls kj11 t186 t187 _ _ t188 _ _ t191 _ _ t194 _ _ t197 t200 t202 t203 _ _ t204 _ _ t207 _ _ t210 _ _ t213 t216 t218 _ ?side1 ?side2 ?side3 ?side4 ?side5 ?side6 ?side7 ?side8 ?side9 ?side10 ?side11 ?side12 ?side13 ?side14 ?side15 ?side16 A22.out).mono ?_); (case side1 => refine (Kd.R_reads' (e := 9) (base := w.heap.size) (ok := fun k_ => (((((((((((((some k_ ≠ (.slice Ao44 t191.length co44 : Value).ownBlock ∧ (some k_ ≠ (.slice Ao45 t194.length co45 : Value).ownBlock ∧ some k_ ≠ (.slice Ao46 t197.length co46 : Value).ownBlock)) ∧ some k_ ≠ (.slice Ao27 t157.length co27 : Value).ownBlock) ∧ some k_ ≠ (.slice Ao28 t160.length co28 : Value).ownBlock) ∧ some k_ ≠ (.slice Ao29 t163.length co29 : Value).ownBlock) ∧ some k_ ≠ (.slice Ao30 t166.length co30 : Value).ownBlock) ∧ some k_ ≠ (.slice Ao31 t172.length co31 : Value).ownBlock) ∧ some k_ ≠ (.slice Ao32 t175.length co32 : Value).ownBlock) ∧ some k_ ≠ (.slice Ao33 t178.length co33 : Value).ownBlock) ∧ some k_ ≠ (.slice Ao34 t181.length co34 : Value).ownBlock) ∧ some k_ ≠ (.slice Ao54 t204.length co54 : Value).ownBlock) ∧ some k_ ≠ (.slice Ao55 t207.length co55 : Value).ownBlock) ∧ some k_ ≠ (.slice Ao56 t210.length co56 : Value).ownBlock) ∧ some k_ ≠ (.slice Ao57 t213.length co57 : Value).ownBlock)) (n := t188.length) (c := co43) ?_).2.2; exact (by (with_reducible repeat (first | apply rA | apply rN | apply rD)); exact (Kd.R_mono (Kd.R_far (p := ⟨gb217, 6, none⟩) (Kd.R_far (p := ⟨gb217, 5, none⟩) (Kd.R_far (p := ⟨gb217, 4, none⟩) (Kd.R_far (p := ⟨gb217, 3, none⟩) (Kd.R_far (p := ⟨gb217, 2, none⟩) (Kd.R_far (p := ⟨gb217, 1, none⟩) (Kd.R_far (p := ⟨gb217, 0, none⟩) (Kd.R_types HO190.out BK217.out (by decide)) h2_ (.int .i64 t202)) h2_ (.string t203)) h2_ (.slice Ao54 t204.length co54)) h2_ (.slice Ao55 t207.length co55)) h2_ (.slice Ao56 t210.length co56)) h2_ (.slice Ao57 t213.length co57)) h2_ (.int .i64 t216)) h1_))); (case side2 => exact (Kd.R_reads' HO190.out).2.1); (case side3 => refine (Kd.R_reads' (e := 9) (base := w.heap.size) (ok := fun k_ => (((((((((((((some k_ ≠ (.slice Ao43 t188.length co43 : Value).ownBlock ∧ (some k_ ≠ (.slice Ao45 t194.length co45 : Value).ownBlock ∧ some k_ ≠ (.slice Ao46 t197.length co46 : Value).ownBlock)) ∧ some k_ ≠ (.slice Ao27 t157.length co27 : Value).ownBlock) ∧ some k_ ≠ (.slice Ao28 t160.length co28 : Value).ownBlock) ∧ some k_ ≠ (.slice Ao29 t163.length co29 : Value).ownBlock) ∧ some k_ ≠ (.slice Ao30 t166.length co30 : Value).ownBlock) ∧ some k_ ≠ (.slice Ao31 t172.length co31 : Value).ownBlock) ∧ some k_ ≠ (.slice Ao32 t175.length co32 : Value).ownBlock) ∧ some k_ ≠ (.slice Ao33 t178.length co33 : Value).ownBlock) ∧ some k_ ≠ (.slice Ao34 t181.length co34 : Value).ownBlock) ∧ some k_ ≠ (.slice Ao54 t204.length co54 : Value).ownBlock) ∧ some k_ ≠ (.slice Ao55 t207.length co55 : Value).ownBlock) ∧ some k_ ≠ (.slice Ao56 t210.length co56 : Value).ownBlock) ∧ some k_ ≠ (.slice Ao57 t213.length co57 : Value).ownBlock)) (n := t191.length) (c := co44) ?_).2.2; exact (by (with_reducible repeat (first | apply rA | apply rN | apply rD)); exact (Kd.R_mono (Kd.R_far (p := ⟨gb217, 6, none⟩) (Kd.R_far (p := ⟨gb217, 5, none⟩) (Kd.R_far (p := ⟨gb217, 4, none⟩) (Kd.R_far (p := ⟨gb217, 3, none⟩) (Kd.R_far (p := ⟨gb217, 2, none⟩) (Kd.R_far (p := ⟨gb217, 1, none⟩) (Kd.R_far (p := ⟨gb217, 0, none⟩) (Kd.R_types HO193.out BK217.out (by decide)) h2_ (.int .i64 t202)) h2_ (.string t203)) h2_ (.slice Ao54 t204.length co54)) h2_ (.slice Ao55 t207.length co55)) h2_ (.slice Ao56 t210.length co56)) h2_ (.slice Ao57 t213.length co57)) h2_ (.int .i64 t216)) h1_))); (case side4 => exact (Kd.R_reads' HO193.out).2.1); (case side5 => refine (Kd.R_reads' (e := 9) (base := w.heap.size) (ok := fun k_ => (((((((((((((some k_ ≠ (.slice Ao43 t188.length co43 : Value).ownBlock ∧ (some k_ ≠ (.slice Ao44 t191.length co44 : Value).ownBlock ∧ some k_ ≠ (.slice Ao46 t197.length co46 : Value).ownBlock)) ∧ some k_ ≠ (.slice Ao27 t157.length co27 : Value).ownBlock) ∧ some k_ ≠ (.slice Ao28 t160.length co28 : Value).ownBlock) ∧ some k_ ≠ (.slice Ao29 t163.length co29 : Value).ownBlock) ∧ some k_ ≠ (.slice Ao30 t166.length co30 : Value).ownBlock) ∧ some k_ ≠ (.slice Ao31 t172.length co31 : Value).ownBlock) ∧ some k_ ≠ (.slice Ao32 t175.length co32 : Value).ownBlock) ∧ some k_ ≠ (.slice Ao33 t178.length co33 : Value).ownBlock) ∧ some k_ ≠ (.slice Ao34 t181.length co34 : Value).ownBlock) ∧ some k_ ≠ (.slice Ao54 t204.length co54 : Value).ownBlock) ∧ some k_ ≠ (.slice Ao55 t207.length co55 : Value).ownBlock) ∧ some k_ ≠ (.slice Ao56 t210.length co56 : Value).ownBlock) ∧ some k_ ≠ (.slice Ao57 t213.length co57 : Value).ownBlock)) (n := t194.length) (c := co45) ?_).2.2; exact (by (with_reducible repeat (first | apply rA | apply rN | apply rD)); exact (Kd.R_mono (Kd.R_far (p := ⟨gb217, 6, none⟩) (Kd.R_far (p := ⟨gb217, 5, none⟩) (Kd.R_far (p := ⟨gb217, 4, none⟩) (Kd.R_far (p := ⟨gb217, 3, none⟩) (Kd.R_far (p := ⟨gb217, 2, none⟩) (Kd.R_far (p := ⟨gb217, 1, none⟩) (Kd.R_far (p := ⟨gb217, 0, none⟩) (Kd.R_types HO196.out BK217.out (by decide)) h2_ (.int .i64 t202)) h2_ (.string t203)) h2_ (.slice Ao54 t204.length co54)) h2_ (.slice Ao55 t207.length co55)) h2_ (.slice Ao56 t210.length co56)) h2_ (.slice Ao57 t213.length co57)) h2_ (.int .i64 t216)) h1_))); (case side6 => exact (Kd.R_reads' HO196.out).2.1); (case side7 => refine (Kd.R_reads' (e := 9) (base := w.heap.size) (ok := fun k_ => (((((((((((((some k_ ≠ (.slice Ao43 t188.length co43 : Value).ownBlock ∧ (some k_ ≠ (.slice Ao44 t191.length co44 : Value).ownBlock ∧ some k_ ≠ (.slice Ao45 t194.length co45 : Value).ownBlock)) ∧ some k_ ≠ (.slice Ao27 t157.length co27 : Value).ownBlock) ∧ some k_ ≠ (.slice Ao28 t160.length co28 : Value).ownBlock) ∧ some k_ ≠ (.slice Ao29 t163.length co29 : Value).ownBlock) ∧ some k_ ≠ (.slice Ao30 t166.length co30 : Value).ownBlock) ∧ some k_ ≠ (.slice Ao31 t172.length co31 : Value).ownBlock) ∧ some k_ ≠ (.slice Ao32 t175.length co32 : Value).ownBlock) ∧ some k_ ≠ (.slice Ao33 t178.length co33 : Value).ownBlock) ∧ some k_ ≠ (.slice Ao34 t181.length co34 : Value).ownBlock) ∧ some k_ ≠ (.slice Ao54 t204.length co54 : Value).ownBlock) ∧ some k_ ≠ (.slice Ao55 t207.length co55 : Value).ownBlock) ∧ some k_ ≠ (.slice Ao56 t210.length co56 : Value).ownBlock) ∧ some k_ ≠ (.slice Ao57 t213.length co57 : Value).ownBlock)) (n := t197.length) (c := co46) ?_).2.2; exact (by (with_reducible repeat (first | apply rA | apply rN | apply rD)); exact (Kd.R_mono (Kd.R_far (p := ⟨gb217, 6, none⟩) (Kd.R_far (p := ⟨gb217, 5, none⟩) (Kd.R_far (p := ⟨gb217, 4, none⟩) (Kd.R_far (p := ⟨gb217, 3, none⟩) (Kd.R_far (p := ⟨gb217, 2, none⟩) (Kd.R_far (p := ⟨gb217, 1, none⟩) (Kd.R_far (p := ⟨gb217, 0, none⟩) (Kd.R_types HO199.out BK217.out (by decide)) h2_ (.int .i64 t202)) h2_ (.string t203)) h2_ (.slice Ao54 t204.length co54)) h2_ (.slice Ao55 t207.length co55)) h2_ (.slice Ao56 t210.length co56)) h2_ (.slice Ao57 t213.length co57)) h2_ (.int .i64 t216)) h1_))); (case side8 => exact (Kd.R_reads' HO199.out).2.1); (case side9 => refine (Kd.R_reads' (e := 9) (base := w.heap.size) (ok := fun k_ => (((((((((((((some k_ ≠ (.slice Ao55 t207.length co55 : Value).ownBlock ∧ (some k_ ≠ (.slice Ao56 t210.length co56 : Value).ownBlock ∧ some k_ ≠ (.slice Ao57 t213.length co57 : Value).ownBlock)) ∧ some k_ ≠ (.slice Ao27 t157.length co27 : Value).ownBlock) ∧ some k_ ≠ (.slice Ao28 t160.length co28 : Value).ownBlock) ∧ some k_ ≠ (.slice Ao29 t163.length co29 : Value).ownBlock) ∧ some k_ ≠ (.slice Ao30 t166.length co30 : Value).ownBlock) ∧ some k_ ≠ (.slice Ao31 t172.length co31 : Value).ownBlock) ∧ some k_ ≠ (.slice Ao32 t175.length co32 : Value).ownBlock) ∧ some k_ ≠ (.slice Ao33 t178.length co33 : Value).ownBlock) ∧ some k_ ≠ (.slice Ao34 t181.length co34 : Value).ownBlock) ∧ some k_ ≠ (.slice Ao43 t188.length co43 : Value).ownBlock) ∧ some k_ ≠ (.slice Ao44 t191.length co44 : Value).ownBlock) ∧ some k_ ≠ (.slice Ao45 t194.length co45 : Value).ownBlock) ∧ some k_ ≠ (.slice Ao46 t197.length co46 : Value).ownBlock)) (n := t204.length) (c := co54) ?_).2.2; exact (by (with_reducible repeat (first | apply rA | apply rN | apply rD)); exact (Kd.R_mono (Kd.R_far (p := ⟨gb217, 6, none⟩) (Kd.R_far (p := ⟨gb217, 5, none⟩) (Kd.R_far (p := ⟨gb217, 4, none⟩) (Kd.R_far (p := ⟨gb217, 3, none⟩) (Kd.R_far (p := ⟨gb217, 2, none⟩) (Kd.R_far (p := ⟨gb217, 1, none⟩) (Kd.R_far (p := ⟨gb217, 0, none⟩) (Kd.R_types HO206.out BK217.out (by decide)) h2_ (.int .i64 t202)) h2_ (.string t203)) h2_ (.slice Ao54 t204.length co54)) h2_ (.slice Ao55 t207.length co55)) h2_ (.slice Ao56 t210.length co56)) h2_ (.slice Ao57 t213.length co57)) h2_ (.int .i64 t216)) h1_))); (case side10 => exact (Kd.R_reads' HO206.out).2.1); (case side11 => refine (Kd.R_reads' (e := 9) (base := w.heap.size) (ok := fun k_ => (((((((((((((some k_ ≠ (.slice Ao54 t204.length co54 : Value).ownBlock ∧ (some k_ ≠ (.slice Ao56 t210.length co56 : Value).ownBlock ∧ some k_ ≠ (.slice Ao57 t213.length co57 : Value).ownBlock)) ∧ some k_ ≠ (.slice Ao27 t157.length co27 : Value).ownBlock) ∧ some k_ ≠ (.slice Ao28 t160.length co28 : Value).ownBlock) ∧ some k_ ≠ (.slice Ao29 t163.length co29 : Value).ownBlock) ∧ some k_ ≠ (.slice Ao30 t166.length co30 : Value).ownBlock) ∧ some k_ ≠ (.slice Ao31 t172.length co31 : Value).ownBlock) ∧ some k_ ≠ (.slice Ao32 t175.length co32 : Value).ownBlock) ∧ some k_ ≠ (.slice Ao33 t178.length co33 : Value).ownBlock) ∧ some k_ ≠ (.slice Ao34 t181.length co34 : Value).ownBlock) ∧ some k_ ≠ (.slice Ao43 t188.length co43 : Value).ownBlock) ∧ some k_ ≠ (.slice Ao44 t191.length co44 : Value).ownBlock) ∧ some k_ ≠ (.slice Ao45 t194.length co45 : Value).ownBlock) ∧ some k_ ≠ (.slice Ao46 t197.length co46 : Value).ownBlock)) (n := t207.length) (c := co55) ?_).2.2; exact (by (with_reducible repeat (first | apply rA | apply rN | apply rD)); exact (Kd.R_mono (Kd.R_far (p := ⟨gb217, 6, none⟩) (Kd.R_far (p := ⟨gb217, 5, none⟩) (Kd.R_far (p := ⟨gb217, 4, none⟩) (Kd.R_far (p := ⟨gb217, 3, none⟩) (Kd.R_far (p := ⟨gb217, 2, none⟩) (Kd.R_far (p := ⟨gb217, 1, none⟩) (Kd.R_far (p := ⟨gb217, 0, none⟩) (Kd.R_types HO209.out BK217.out (by decide)) h2_ (.int .i64 t202)) h2_ (.string t203)) h2_ (.slice Ao54 t204.length co54)) h2_ (.slice Ao55 t207.length co55)) h2_ (.slice Ao56 t210.length co56)) h2_ (.slice Ao57 t213.length co57)) h2_ (.int .i64 t216)) h1_))); (case side12 => exact (Kd.R_reads' HO209.out).2.1); (case side13 => refine (Kd.R_reads' (e := 9) (base := w.heap.size) (ok := fun k_ => (((((((((((((some k_ ≠ (.slice Ao54 t204.length co54 : Value).ownBlock ∧ (some k_ ≠ (.slice Ao55 t207.length co55 : Value).ownBlock ∧ some k_ ≠ (.slice Ao57 t213.length co57 : Value).ownBlock)) ∧ some k_ ≠ (.slice Ao27 t157.length co27 : Value).ownBlock) ∧ some k_ ≠ (.slice Ao28 t160.length co28 : Value).ownBlock) ∧ some k_ ≠ (.slice Ao29 t163.length co29 : Value).ownBlock) ∧ some k_ ≠ (.slice Ao30 t166.length co30 : Value).ownBlock) ∧ some k_ ≠ (.slice Ao31 t172.length co31 : Value).ownBlock) ∧ some k_ ≠ (.slice Ao32 t175.length co32 : Value).ownBlock) ∧ some k_ ≠ (.slice Ao33 t178.length co33 : Value).ownBlock) ∧ some k_ ≠ (.slice Ao34 t181.length co34 : Value).ownBlock) ∧ some k_ ≠ (.slice Ao43 t188.length co43 : Value).ownBlock) ∧ some k_ ≠ (.slice Ao44 t191.length co44 : Value).ownBlock) ∧ some k_ ≠ (.slice Ao45 t194.length co45 : Value).ownBlock) ∧ some k_ ≠ (.slice Ao46 t197.length co46 : Value).ownBlock)) (n := t210.length) (c := co56) ?_).2.2; exact (by (with_reducible repeat (first | apply rA | apply rN | apply rD)); exact (Kd.R_mono (Kd.R_far (p := ⟨gb217, 6, none⟩) (Kd.R_far (p := ⟨gb217, 5, none⟩) (Kd.R_far (p := ⟨gb217, 4, none⟩) (Kd.R_far (p := ⟨gb217, 3, none⟩) (Kd.R_far (p := ⟨gb217, 2, none⟩) (Kd.R_far (p := ⟨gb217, 1, none⟩) (Kd.R_far (p := ⟨gb217, 0, none⟩) (Kd.R_types HO212.out BK217.out (by decide)) h2_ (.int .i64 t202)) h2_ (.string t203)) h2_ (.slice Ao54 t204.length co54)) h2_ (.slice Ao55 t207.length co55)) h2_ (.slice Ao56 t210.length co56)) h2_ (.slice Ao57 t213.length co57)) h2_ (.int .i64 t216)) h1_))); (case side14 => exact (Kd.R_reads' HO212.out).2.1); (case side15 => refine (Kd.R_reads' (e := 9) (base := w.heap.size) (ok := fun k_ => (((((((((((((some k_ ≠ (.slice Ao54 t204.length co54 : Value).ownBlock ∧ (some k_ ≠ (.slice Ao55 t207.length co55 : Value).ownBlock ∧ some k_ ≠ (.slice Ao56 t210.length co56 : Value).ownBlock)) ∧ some k_ ≠ (.slice Ao27 t157.length co27 : Value).ownBlock) ∧ some k_ ≠ (.slice Ao28 t160.length co28 : Value).ownBlock) ∧ some k_ ≠ (.slice Ao29 t163.length co29 : Value).ownBlock) ∧ some k_ ≠ (.slice Ao30 t166.length co30 : Value).ownBlock) ∧ some k_ ≠ (.slice Ao31 t172.length co31 : Value).ownBlock) ∧ some k_ ≠ (.slice Ao32 t175.length co32 : Value).ownBlock) ∧ some k_ ≠ (.slice Ao33 t178.length co33 : Value).ownBlock) ∧ some k_ ≠ (.slice Ao34 t181.length co34 : Value).ownBlock) ∧ some k_ ≠ (.slice Ao43 t188.length co43 : Value).ownBlock) ∧ some k_ ≠ (.slice Ao44 t191.length co44 : Value).ownBlock) ∧ some k_ ≠ (.slice Ao45 t194.length co45 : Value).ownBlock) ∧ some k_ ≠ (.slice Ao46 t197.length co46 : Value).ownBlock)) (n := t213.length) (c := co57) ?_).2.2; exact (by (with_reducible repeat (first | apply rA | apply rN | apply rD)); exact (Kd.R_mono (Kd.R_far (p := ⟨gb217, 6, none⟩) (Kd.R_far (p := ⟨gb217, 5, none⟩) (Kd.R_far (p := ⟨gb217, 4, none⟩) (Kd.R_far (p := ⟨gb217, 3, none⟩) (Kd.R_far (p := ⟨gb217, 2, none⟩) (Kd.R_far (p := ⟨gb217, 1, none⟩) (Kd.R_far (p := ⟨gb217, 0, none⟩) (Kd.R_types HO215.out BK217.out (by decide)) h2_ (.int .i64 t202)) h2_ (.string t203)) h2_ (.slice Ao54 t204.length co54)) h2_ (.slice Ao55 t207.length co55)) h2_ (.slice Ao56 t210.length co56)) h2_ (.slice Ao57 t213.length co57)) h2_ (.int .i64 t216)) h1_))); (case side16 => exact (Kd.R_reads' HO215.out).2.1); rintro e w59 ⟨rfl, hb⟩; refine ⟨_, rfl, ?_⟩; have n0_ := aM (Kd.R_below (by (with_reducible repeat (first | apply rA | apply rN | apply rD)); exact (Kd.R_mono (Kd.R_far (p := ⟨gb217, 6, none⟩) (Kd.R_far (p := ⟨gb217, 5, none⟩) (Kd.R_far (p := ⟨gb217, 4, none⟩) (Kd.R_far (p := ⟨gb217, 3, none⟩) (Kd.R_far (p := ⟨gb217, 2, none⟩) (Kd.R_far (p := ⟨gb217, 1, none⟩) (Kd.R_far (p := ⟨gb217, 0, none⟩) (Kd.R_types HO159.out BK217.out (by decide)) h2_ (.int .i64 t202)) h2_ (.string t203)) h2_ (.slice Ao54 t204.length co54)) h2_ (.slice Ao55 t207.length co55)) h2_ (.slice Ao56 t210.length co56)) h2_ (.slice Ao57 t213.length co57)) h2_ (.int .i64 t216)) h1_)) hb); have n1_ := aM (Kd.R_below (by (with_reducible repeat (first | apply rA | apply rN | apply rD)); exact (Kd.R_mono (Kd.R_far (p := ⟨gb217, 6, none⟩) (Kd.R_far (p := ⟨gb217, 5, none⟩) (Kd.R_far (p := ⟨gb217, 4, none⟩) (Kd.R_far (p := ⟨gb217, 3, none⟩) (Kd.R_far (p := ⟨gb217, 2, none⟩) (Kd.R_far (p := ⟨gb217, 1, none⟩) (Kd.R_far (p := ⟨gb217, 0, none⟩) (Kd.R_types HO162.out BK217.out (by decide)) h2_ (.int .i64 t202)) h2_ (.string t203)) h2_ (.slice Ao54 t204.length co54)) h2_ (.slice Ao55 t207.length co55)) h2_ (.slice Ao56 t210.length co56)) h2_ (.slice Ao57 t213.length co57)) h2_ (.int .i64 t216)) h1_)) hb); have n2_ := aM (Kd.R_below (by (with_reducible repeat (first | apply rA | apply rN | apply rD)); exact (Kd.R_mono (Kd.R_far (p := ⟨gb217, 6, none⟩) (Kd.R_far (p := ⟨gb217, 5, none⟩) (Kd.R_far (p := ⟨gb217, 4, none⟩) (Kd.R_far (p := ⟨gb217, 3, none⟩) (Kd.R_far (p := ⟨gb217, 2, none⟩) (Kd.R_far (p := ⟨gb217, 1, none⟩) (Kd.R_far (p := ⟨gb217, 0, none⟩) (Kd.R_types HO165.out BK217.out (by decide)) h2_ (.int .i64 t202)) h2_ (.string t203)) h2_ (.slice Ao54 t204.length co54)) h2_ (.slice Ao55 t207.length co55)) h2_ (.slice Ao56 t210.length co56)) h2_ (.slice Ao57 t213.length co57)) h2_ (.int .i64 t216)) h1_)) hb); have n3_ := aM (Kd.R_below (by (with_reducible repeat (first | apply rA | apply rN | apply rD)); exact (Kd.R_mono (Kd.R_far (p := ⟨gb217, 6, none⟩) (Kd.R_far (p := ⟨gb217, 5, none⟩) (Kd.R_far (p := ⟨gb217, 4, none⟩) (Kd.R_far (p := ⟨gb217, 3, none⟩) (Kd.R_far (p := ⟨gb217, 2, none⟩) (Kd.R_far (p := ⟨gb217, 1, none⟩) (Kd.R_far (p := ⟨gb217, 0, none⟩) (Kd.R_types HO168.out BK217.out (by decide)) h2_ (.int .i64 t202)) h2_ (.string t203)) h2_ (.slice Ao54 t204.length co54)) h2_ (.slice Ao55 t207.length co55)) h2_ (.slice Ao56 t210.length co56)) h2_ (.slice Ao57 t213.length co57)) h2_ (.int .i64 t216)) h1_)) hb); have n4_ := aM (Kd.R_below (by (with_reducible repeat (first | apply rA | apply rN | apply rD)); exact (Kd.R_mono (Kd.R_far (p := ⟨gb217, 6, none⟩) (Kd.R_far (p := ⟨gb217, 5, none⟩) (Kd.R_far (p := ⟨gb217, 4, none⟩) (Kd.R_far (p := ⟨gb217, 3, none⟩) (Kd.R_far (p := ⟨gb217, 2, none⟩) (Kd.R_far (p := ⟨gb217, 1, none⟩) (Kd.R_far (p := ⟨gb217, 0, none⟩) (Kd.R_types HO174.out BK217.out (by decide)) h2_ (.int .i64 t202)) h2_ (.string t203)) h2_ (.slice Ao54 t204.length co54)) h2_ (.slice Ao55 t207.length co55)) h2_ (.slice Ao56 t210.length co56)) h2_ (.slice Ao57 t213.length co57)) h2_ (.int .i64 t216)) h1_)) hb); have n5_ := aM (Kd.R_below (by (with_reducible repeat (first | apply rA | apply rN | apply rD)); exact (Kd.R_mono (Kd.R_far (p := ⟨gb217, 6, none⟩) (Kd.R_far (p := ⟨gb217, 5, none⟩) (Kd.R_far (p := ⟨gb217, 4, none⟩) (Kd.R_far (p := ⟨gb217, 3, none⟩) (Kd.R_far (p := ⟨gb217, 2, none⟩) (Kd.R_far (p := ⟨gb217, 1, none⟩) (Kd.R_far (p := ⟨gb217, 0, none⟩) (Kd.R_types HO177.out BK217.out (by decide)) h2_ (.int .i64 t202)) h2_ (.string t203)) h2_ (.slice Ao54 t204.length co54)) h2_ (.slice Ao55 t207.length co55)) h2_ (.slice Ao56 t210.length co56)) h2_ (.slice Ao57 t213.length co57)) h2_ (.int .i64 t216)) h1_)) hb); have n6_ := aM (Kd.R_below (by (with_reducible repeat (first | apply rA | apply rN | apply rD)); exact (Kd.R_mono (Kd.R_far (p := ⟨gb217, 6, none⟩) (Kd.R_far (p := ⟨gb217, 5, none⟩) (Kd.R_far (p := ⟨gb217, 4, none⟩) (Kd.R_far (p := ⟨gb217, 3, none⟩) (Kd.R_far (p := ⟨gb217, 2, none⟩) (Kd.R_far (p := ⟨gb217, 1, none⟩) (Kd.R_far (p := ⟨gb217, 0, none⟩) (Kd.R_types HO180.out BK217.out (by decide)) h2_ (.int .i64 t202)) h2_ (.string t203)) h2_ (.slice Ao54 t204.length co54)) h2_ (.slice Ao55 t207.length co55)) h2_ (.slice Ao56 t210.length co56)) h2_ (.slice Ao57 t213.length co57)) h2_ (.int .i64 t216)) h1_)) hb); have n7_ := aM (Kd.R_below (by (with_reducible repeat (first | apply rA | apply rN | apply rD)); exact (Kd.R_mono (Kd.R_far (p := ⟨gb217, 6, none⟩) (Kd.R_far (p := ⟨gb217, 5, none⟩) (Kd.R_far (p := ⟨gb217, 4, none⟩) (Kd.R_far (p := ⟨gb217, 3, none⟩) (Kd.R_far (p := ⟨gb217, 2, none⟩) (Kd.R_far (p := ⟨gb217, 1, none⟩) (Kd.R_far (p := ⟨gb217, 0, none⟩) (Kd.R_types HO183.out BK217.out (by decide)) h2_ (.int .i64 t202)) h2_ (.string t203)) h2_ (.slice Ao54 t204.length co54)) h2_ (.slice Ao55 t207.length co55)) h2_ (.slice Ao56 t210.length co56)) h2_ (.slice Ao57 t213.length co57)) h2_ (.int .i64 t216)) h1_)) hb); have n8_ := aM (Kd.R_below (by (with_reducible repeat (first | apply rA | apply rN | apply rD)); exact (Kd.R_mono (Kd.R_far (p := ⟨gb217, 6, none⟩) (Kd.R_far (p := ⟨gb217, 5, none⟩) (Kd.R_far (p := ⟨gb217, 4, none⟩) (Kd.R_far (p := ⟨gb217, 3, none⟩) (Kd.R_far (p := ⟨gb217, 2, none⟩) (Kd.R_far (p := ⟨gb217, 1, none⟩) (Kd.R_far (p := ⟨gb217, 0, none⟩) (Kd.R_types HO190.out BK217.out (by decide)) h2_ (.int .i64 t202)) h2_ (.string t203)) h2_ (.slice Ao54 t204.length co54)) h2_ (.slice Ao55 t207.length co55)) h2_ (.slice Ao56 t210.length co56)) h2_ (.slice Ao57 t213.length co57)) h2_ (.int .i64 t216)) h1_)) hb); have n9_ := aM (Kd.R_below (by (with_reducible repeat (first | apply rA | apply rN | apply rD)); exact (Kd.R_mono (Kd.R_far (p := ⟨gb217, 6, none⟩) (Kd.R_far (p := ⟨gb217, 5, none⟩) (Kd.R_far (p := ⟨gb217, 4, none⟩) (Kd.R_far (p := ⟨gb217, 3, none⟩) (Kd.R_far (p := ⟨gb217, 2, none⟩) (Kd.R_far (p := ⟨gb217, 1, none⟩) (Kd.R_far (p := ⟨gb217, 0, none⟩) (Kd.R_types HO193.out BK217.out (by decide)) h2_ (.int .i64 t202)) h2_ (.string t203)) h2_ (.slice Ao54 t204.length co54)) h2_ (.slice Ao55 t207.length co55)) h2_ (.slice Ao56 t210.length co56)) h2_ (.slice Ao57 t213.length co57)) h2_ (.int .i64 t216)) h1_)) hb); have n10_ := aM (Kd.R_below (by (with_reducible repeat (first | apply rA | apply rN | apply rD)); exact (Kd.R_mono (Kd.R_far (p := ⟨gb217, 6, none⟩) (Kd.R_far (p := ⟨gb217, 5, none⟩) (Kd.R_far (p := ⟨gb217, 4, none⟩) (Kd.R_far (p := ⟨gb217, 3, none⟩) (Kd.R_far (p := ⟨gb217, 2, none⟩) (Kd.R_far (p := ⟨gb217, 1, none⟩) (Kd.R_far (p := ⟨gb217, 0, none⟩) (Kd.R_types HO196.out BK217.out (by decide)) h2_ (.int .i64 t202)) h2_ (.string t203)) h2_ (.slice Ao54 t204.length co54)) h2_ (.slice Ao55 t207.length co55)) h2_ (.slice Ao56 t210.length co56)) h2_ (.slice Ao57 t213.length co57)) h2_ (.int .i64 t216)) h1_)) hb); have n11_ := aM (Kd.R_below (by (with_reducible repeat (first | apply rA | apply rN | apply rD)); exact (Kd.R_mono (Kd.R_far (p := ⟨gb217, 6, none⟩) (Kd.R_far (p := ⟨gb217, 5, none⟩) (Kd.R_far (p := ⟨gb217, 4, none⟩) (Kd.R_far (p := ⟨gb217, 3, none⟩) (Kd.R_far (p := ⟨gb217, 2, none⟩) (Kd.R_far (p := ⟨gb217, 1, none⟩) (Kd.R_far (p := ⟨gb217, 0, none⟩) (Kd.R_types HO199.out BK217.out (by decide)) h2_ (.int .i64 t202)) h2_ (.string t203)) h2_ (.slice Ao54 t204.length co54)) h2_ (.slice Ao55 t207.length co55)) h2_ (.slice Ao56 t210.length co56)) h2_ (.slice Ao57 t213.length co57)) h2_ (.int .i64 t216)) h1_)) hb); have n12_ := aM (Kd.R_below (by (with_reducible repeat (first | apply rA | apply rN | apply rD)); exact (Kd.R_mono (Kd.R_far (p := ⟨gb217, 6, none⟩) (Kd.R_far (p := ⟨gb217, 5, none⟩) (Kd.R_far (p := ⟨gb217, 4, none⟩) (Kd.R_far (p := ⟨gb217, 3, none⟩) (Kd.R_far (p := ⟨gb217, 2, none⟩) (Kd.R_far (p := ⟨gb217, 1, none⟩) (Kd.R_far (p := ⟨gb217, 0, none⟩) (Kd.R_types HO206.out BK217.out (by decide)) h2_ (.int .i64 t202)) h2_ (.string t203)) h2_ (.slice Ao54 t204.length co54)) h2_ (.slice Ao55 t207.length co55)) h2_ (.slice Ao56 t210.length co56)) h2_ (.slice Ao57 t213.length co57)) h2_ (.int .i64 t216)) h1_)) hb); have n13_ := aM (Kd.R_below (by (with_reducible repeat (first | apply rA | apply rN | apply rD)); exact (Kd.R_mono (Kd.R_far (p := ⟨gb217, 6, none⟩) (Kd.R_far (p := ⟨gb217, 5, none⟩) (Kd.R_far (p := ⟨gb217, 4, none⟩) (Kd.R_far (p := ⟨gb217, 3, none⟩) (Kd.R_far (p := ⟨gb217, 2, none⟩) (Kd.R_far (p := ⟨gb217, 1, none⟩) (Kd.R_far (p := ⟨gb217, 0, none⟩) (Kd.R_types HO209.out BK217.out (by decide)) h2_ (.int .i64 t202)) h2_ (.string t203)) h2_ (.slice Ao54 t204.length co54)) h2_ (.slice Ao55 t207.length co55)) h2_ (.slice Ao56 t210.length co56)) h2_ (.slice Ao57 t213.length co57)) h2_ (.int .i64 t216)) h1_)) hb); have n14_ := aM (Kd.R_below (by (with_reducible repeat (first | apply rA | apply rN | apply rD)); exact (Kd.R_mono (Kd.R_far (p := ⟨gb217, 6, none⟩) (Kd.R_far (p := ⟨gb217, 5, none⟩) (Kd.R_far (p := ⟨gb217, 4, none⟩) (Kd.R_far (p := ⟨gb217, 3, none⟩) (Kd.R_far (p := ⟨gb217, 2, none⟩) (Kd.R_far (p := ⟨gb217, 1, none⟩) (Kd.R_far (p := ⟨gb217, 0, none⟩) (Kd.R_types HO212.out BK217.out (by decide)) h2_ (.int .i64 t202)) h2_ (.string t203)) h2_ (.slice Ao54 t204.length co54)) h2_ (.slice Ao55 t207.length co55)) h2_ (.slice Ao56 t210.length co56)) h2_ (.slice Ao57 t213.length co57)) h2_ (.int .i64 t216)) h1_)) hb); have n15_ := aM (Kd.R_below (by (with_reducible repeat (first | apply rA | apply rN | apply rD)); exact (Kd.R_mono (Kd.R_far (p := ⟨gb217, 6, none⟩) (Kd.R_far (p := ⟨gb217, 5, none⟩) (Kd.R_far (p := ⟨gb217, 4, none⟩) (Kd.R_far (p := ⟨gb217, 3, none⟩) (Kd.R_far (p := ⟨gb217, 2, none⟩) (Kd.R_far (p := ⟨gb217, 1, none⟩) (Kd.R_far (p := ⟨gb217, 0, none⟩) (Kd.R_types HO215.out BK217.out (by decide)) h2_ (.int .i64 t202)) h2_ (.string t203)) h2_ (.slice Ao54 t204.length co54)) h2_ (.slice Ao55 t207.length co55)) h2_ (.slice Ao56 t210.length co56)) h2_ (.slice Ao57 t213.length co57)) h2_ (.int .i64 t216)) h1_)) hb); have n16_ := aM (blk_below (g := gb151) (o := .cells #[.int .i64 a0_0, .string a0_1, .slice A0_2 l0_2.length c0_2, .slice A0_3 l0_3.length c0_3, .slice A0_4 l0_4.length c0_4, .slice A0_5 l0_5.length c0_5, .int .i64 a0_6] 50 (0, 0)) (by (with_reducible repeat (first | refine blk_drewN ?_ _ | refine blk_drew ?_ | refine blk_alloc ?_ _)); refine blk_far ?_ NB151_217.out _; (with_reducible repeat (first | refine blk_drewN ?_ _ | refine blk_drew ?_ | refine blk_alloc ?_ _)); refine blk_far ?_ NB151_217.out _; (with_reducible repeat (first | refine blk_drewN ?_ _ | refine blk_drew ?_ | refine blk_alloc ?_ _)); refine blk_far ?_ NB151_217.out _; (with_reducible repeat (first | refine blk_drewN ?_ _ | refine blk_drew ?_ | refine blk_alloc ?_ _)); refine blk_far ?_ NB151_217.out _; (with_reducible repeat (first | refine blk_drewN ?_ _ | refine blk_drew ?_ | refine blk_alloc ?_ _)); refine blk_far ?_ NB151_217.out _; (with_reducible repeat (first | refine blk_drewN ?_ _ | refine blk_drew ?_ | refine blk_alloc ?_ _)); refine blk_far ?_ NB151_217.out _; (with_reducible repeat (first | refine blk_drewN ?_ _ | refine blk_drew ?_ | refine blk_alloc ?_ _)); refine blk_far ?_ NB151_217.out _; (with_reducible repeat (first | refine blk_drewN ?_ _ | refine blk_drew ?_ | refine blk_alloc ?_ _)); exact BK151.out) hb); have n17_ := aM (blk_below (g := gb152) (o := .cells #[.int .i64 a1_0, .string a1_1, .slice A1_2 l1_2.length c1_2, .slice A1_3 l1_3.length c1_3, .slice A1_4 l1_4.length c1_4, .slice A1_5 l1_5.length c1_5, .int .i64 a1_6] 50 (0, 0)) (by (with_reducible repeat (first | refine blk_drewN ?_ _ | refine blk_drew ?_ | refine blk_alloc ?_ _)); refine blk_far ?_ NB152_217.out _; (with_reducible repeat (first | refine blk_drewN ?_ _ | refine blk_drew ?_ | refine blk_alloc ?_ _)); refine blk_far ?_ NB152_217.out _; (with_reducible repeat (first | refine blk_drewN ?_ _ | refine blk_drew ?_ | refine blk_alloc ?_ _)); refine blk_far ?_ NB152_217.out _; (with_reducible repeat (first | refine blk_drewN ?_ _ | refine blk_drew ?_ | refine blk_alloc ?_ _)); refine blk_far ?_ NB152_217.out _; (with_reducible repeat (first | refine blk_drewN ?_ _ | refine blk_drew ?_ | refine blk_alloc ?_ _)); refine blk_far ?_ NB152_217.out _; (with_reducible repeat (first | refine blk_drewN ?_ _ | refine blk_drew ?_ | refine blk_alloc ?_ _)); refine blk_far ?_ NB152_217.out _; (with_reducible repeat (first | refine blk_drewN ?_ _ | refine blk_drew ?_ | refine blk_alloc ?_ _)); refine blk_far ?_ NB152_217.out _; (with_reducible repeat (first | refine blk_drewN ?_ _ | refine blk_drew ?_ | refine blk_alloc ?_ _)); exact BK152.out) hb); have n18_ := aM (blk_below (g := gb201) (o := .cells #[.int .i64 t186, .string t187, .slice Ao43 t188.length co43, .slice Ao44 t191.length co44, .slice Ao45 t194.length co45, .slice Ao46 t197.length co46, .int .i64 t200] 53 (0, 0)) (by (with_reducible repeat (first | refine blk_drewN ?_ _ | refine blk_drew ?_ | refine blk_alloc ?_ _)); refine blk_far ?_ NB201_217.out _; (with_reducible repeat (first | refine blk_drewN ?_ _ | refine blk_drew ?_ | refine blk_alloc ?_ _)); refine blk_far ?_ NB201_217.out _; (with_reducible repeat (first | refine blk_drewN ?_ _ | refine blk_drew ?_ | refine blk_alloc ?_ _)); refine blk_far ?_ NB201_217.out _; (with_reducible repeat (first | refine blk_drewN ?_ _ | refine blk_drew ?_ | refine blk_alloc ?_ _)); refine blk_far ?_ NB201_217.out _; (with_reducible repeat (first | refine blk_drewN ?_ _ | refine blk_drew ?_ | refine blk_alloc ?_ _)); refine blk_far ?_ NB201_217.out _; (with_reducible repeat (first | refine blk_drewN ?_ _ | refine blk_drew ?_ | refine blk_alloc ?_ _)); refine blk_far ?_ NB201_217.out _; (with_reducible repeat (first | refine blk_drewN ?_ _ | refine blk_drew ?_ | refine blk_alloc ?_ _)); refine blk_far ?_ NB201_217.out _; (with_reducible repeat (first | refine blk_drewN ?_ _ | refine blk_drew ?_ | refine blk_alloc ?_ _)); exact BK201.out) hb); have n19_ := aM (blk_below (g := gb217) (o := .cells #[.int .i64 t202, .string t203, .slice Ao54 t204.length co54, .slice Ao55 t207.length co55, .slice Ao56 t210.length co56, .slice Ao57 t213.length co57, .int .i64 t216] 53 (0, 0)) (by (with_reducible repeat (first | refine blk_drewN ?_ _ | refine blk_drew ?_ | refine blk_alloc ?_ _)); refine blk_put (cs := #[.int .i64 t202, .string t203, .slice Ao54 t204.length co54, .slice Ao55 t207.length co55, .slice Ao56 t210.length co56, .slice Ao57 t213.length co57, .int .i64 0]) ?_ 6 _ rfl; (with_reducible repeat (first | refine blk_drewN ?_ _ | refine blk_drew ?_ | refine blk_alloc ?_ _)); refine blk_put (cs := #[.int .i64 t202, .string t203, .slice Ao54 t204.length co54, .slice Ao55 t207.length co55, .slice Ao56 t210.length co56, .slice none 0 0, .int .i64 0]) ?_ 5 _ rfl; (with_reducible repeat (first | refine blk_drewN ?_ _ | refine blk_drew ?_ | refine blk_alloc ?_ _)); refine blk_put (cs := #[.int .i64 t202, .string t203, .slice Ao54 t204.length co54, .slice Ao55 t207.length co55, .slice none 0 0, .slice none 0 0, .int .i64 0]) ?_ 4 _ rfl; (with_reducible repeat (first | refine blk_drewN ?_ _ | refine blk_drew ?_ | refine blk_alloc ?_ _)); refine blk_put (cs := #[.int .i64 t202, .string t203, .slice Ao54 t204.length co54, .slice none 0 0, .slice none 0 0, .slice none 0 0, .int .i64 0]) ?_ 3 _ rfl; (with_reducible repeat (first | refine blk_drewN ?_ _ | refine blk_drew ?_ | refine blk_alloc ?_ _)); refine blk_put (cs := #[.int .i64 t202, .string t203, .slice none 0 0, .slice none 0 0, .slice none 0 0, .slice none 0 0, .int .i64 0]) ?_ 2 _ rfl; (with_reducible repeat (first | refine blk_drewN ?_ _ | refine blk_drew ?_ | refine blk_alloc ?_ _)); refine blk_put (cs := #[.int .i64 t202, .string (⟨#[]⟩ : ByteArray), .slice none 0 0, .slice none 0 0, .slice none 0 0, .slice none 0 0, .int .i64 0]) ?_ 1 _ rfl; (with_reducible repeat (first | refine blk_drewN ?_ _ | refine blk_drew ?_ | refine blk_alloc ?_ _)); refine blk_put (cs := #[.int .i64 0, .string (⟨#[]⟩ : ByteArray), .slice none 0 0, .slice none 0 0, .slice none 0 0, .slice none 0 0, .int .i64 0]) ?_ 0 _ rfl; (with_reducible repeat (first | refine blk_drewN ?_ _ | refine blk_drew ?_ | refine blk_alloc ?_ _)); exact BK217.out) hb); have n20_ := aM (below_step (by repeat (first | (with_reducible first | exact HB.out | apply below_alloc | apply pw_below_drewN | apply below_drew1 | refine below_set ?_ GE151.out | refine below_set ?_ GE152.out | refine below_set ?_ GE201.out | refine below_set ?_ GE217.out) | exact HB.out)) hb); clear HO159; clear HO162; clear HO165; clear HO168; clear HO174; clear HO177; clear HO180; clear HO183; clear HO190; clear HO193; clear HO196; clear HO199; clear HO206; clear HO209; clear HO212; clear HO215; clear BK151; clear BK152; clear BK201; clear BK217; clear HB; have HO159 := n0_; have HO162 := n1_; have HO165 := n2_; have HO168 := n3_; have HO174 := n4_; have HO177 := n5_; have HO180 := n6_; have HO183 := n7_; have HO190 := n8_; have HO193 := n9_; have HO196 := n10_; have HO199 := n11_; have HO206 := n12_; have HO209 := n13_; have HO212 := n14_; have HO215 := n15_; have BK151 := n16_; have BK152 := n17_; have BK201 := n18_; have BK217 := n19_; have HB := n20_; clear n0_ n1_ n2_ n3_ n4_ n5_ n6_ n7_ n8_ n9_ n10_ n11_ n12_ n13_ n14_ n15_ n16_ n17_ n18_ n19_ n20_; (try clear hb); (try clear hb2); (try clear hk); (try clear hi)))
          (try simp only [Act.put, List.setIfInBounds_toArray, List.set_cons_zero, List.set_cons_succ])
          go_cut [] (fun wc => ∃ (kq : Nat), Aside0 (laws_FnExactSameLine.j2 kq a0_0 a0_1 l0_2 l0_3 l0_4 l0_5 a0_6 a1_0 a1_1 l1_2 l1_3 l1_4 l1_5 a1_6 t186 t187 t188 t191 t194 t197 t200 t202 t203 t204 t207 t210 t213 t216 = some r) ∧ Aside0 (kq ≤ kj11) ∧ Aside0 (Kd.R Kd.string 9 wc w.heap.size (fun k_ => some k_ ≠ ((.slice Ao44 t191.length co44) : Value).ownBlock ∧ some k_ ≠ ((.slice Ao45 t194.length co45) : Value).ownBlock ∧ some k_ ≠ ((.slice Ao46 t197.length co46) : Value).ownBlock ∧ some k_ ≠ ((.slice Ao54 t204.length co54) : Value).ownBlock ∧ some k_ ≠ ((.slice Ao55 t207.length co55) : Value).ownBlock ∧ some k_ ≠ ((.slice Ao56 t210.length co56) : Value).ownBlock ∧ some k_ ≠ ((.slice Ao57 t213.length co57) : Value).ownBlock) (.slice Ao43 t188.length co43) t188) ∧ Aside0 (Kd.R Kd.string 9 wc w.heap.size (fun k_ => some k_ ≠ ((.slice Ao43 t188.length co43) : Value).ownBlock ∧ some k_ ≠ ((.slice Ao45 t194.length co45) : Value).ownBlock ∧ some k_ ≠ ((.slice Ao46 t197.length co46) : Value).ownBlock ∧ some k_ ≠ ((.slice Ao54 t204.length co54) : Value).ownBlock ∧ some k_ ≠ ((.slice Ao55 t207.length co55) : Value).ownBlock ∧ some k_ ≠ ((.slice Ao56 t210.length co56) : Value).ownBlock ∧ some k_ ≠ ((.slice Ao57 t213.length co57) : Value).ownBlock) (.slice Ao44 t191.length co44) t191) ∧ Aside0 (Kd.R Kd.string 9 wc w.heap.size (fun k_ => some k_ ≠ ((.slice Ao43 t188.length co43) : Value).ownBlock ∧ some k_ ≠ ((.slice Ao44 t191.length co44) : Value).ownBlock ∧ some k_ ≠ ((.slice Ao46 t197.length co46) : Value).ownBlock ∧ some k_ ≠ ((.slice Ao54 t204.length co54) : Value).ownBlock ∧ some k_ ≠ ((.slice Ao55 t207.length co55) : Value).ownBlock ∧ some k_ ≠ ((.slice Ao56 t210.length co56) : Value).ownBlock ∧ some k_ ≠ ((.slice Ao57 t213.length co57) : Value).ownBlock) (.slice Ao45 t194.length co45) t194) ∧ Aside0 (Kd.R Kd.string 9 wc w.heap.size (fun k_ => some k_ ≠ ((.slice Ao43 t188.length co43) : Value).ownBlock ∧ some k_ ≠ ((.slice Ao44 t191.length co44) : Value).ownBlock ∧ some k_ ≠ ((.slice Ao45 t194.length co45) : Value).ownBlock ∧ some k_ ≠ ((.slice Ao54 t204.length co54) : Value).ownBlock ∧ some k_ ≠ ((.slice Ao55 t207.length co55) : Value).ownBlock ∧ some k_ ≠ ((.slice Ao56 t210.length co56) : Value).ownBlock ∧ some k_ ≠ ((.slice Ao57 t213.length co57) : Value).ownBlock) (.slice Ao46 t197.length co46) t197) ∧ Aside0 (Kd.R Kd.string 9 wc w.heap.size (fun k_ => some k_ ≠ ((.slice Ao43 t188.length co43) : Value).ownBlock ∧ some k_ ≠ ((.slice Ao44 t191.length co44) : Value).ownBlock ∧ some k_ ≠ ((.slice Ao45 t194.length co45) : Value).ownBlock ∧ some k_ ≠ ((.slice Ao46 t197.length co46) : Value).ownBlock ∧ some k_ ≠ ((.slice Ao55 t207.length co55) : Value).ownBlock ∧ some k_ ≠ ((.slice Ao56 t210.length co56) : Value).ownBlock ∧ some k_ ≠ ((.slice Ao57 t213.length co57) : Value).ownBlock) (.slice Ao54 t204.length co54) t204) ∧ Aside0 (Kd.R Kd.string 9 wc w.heap.size (fun k_ => some k_ ≠ ((.slice Ao43 t188.length co43) : Value).ownBlock ∧ some k_ ≠ ((.slice Ao44 t191.length co44) : Value).ownBlock ∧ some k_ ≠ ((.slice Ao45 t194.length co45) : Value).ownBlock ∧ some k_ ≠ ((.slice Ao46 t197.length co46) : Value).ownBlock ∧ some k_ ≠ ((.slice Ao54 t204.length co54) : Value).ownBlock ∧ some k_ ≠ ((.slice Ao56 t210.length co56) : Value).ownBlock ∧ some k_ ≠ ((.slice Ao57 t213.length co57) : Value).ownBlock) (.slice Ao55 t207.length co55) t207) ∧ Aside0 (Kd.R Kd.string 9 wc w.heap.size (fun k_ => some k_ ≠ ((.slice Ao43 t188.length co43) : Value).ownBlock ∧ some k_ ≠ ((.slice Ao44 t191.length co44) : Value).ownBlock ∧ some k_ ≠ ((.slice Ao45 t194.length co45) : Value).ownBlock ∧ some k_ ≠ ((.slice Ao46 t197.length co46) : Value).ownBlock ∧ some k_ ≠ ((.slice Ao54 t204.length co54) : Value).ownBlock ∧ some k_ ≠ ((.slice Ao55 t207.length co55) : Value).ownBlock ∧ some k_ ≠ ((.slice Ao57 t213.length co57) : Value).ownBlock) (.slice Ao56 t210.length co56) t210) ∧ Aside0 (Kd.R Kd.string 9 wc w.heap.size (fun k_ => some k_ ≠ ((.slice Ao43 t188.length co43) : Value).ownBlock ∧ some k_ ≠ ((.slice Ao44 t191.length co44) : Value).ownBlock ∧ some k_ ≠ ((.slice Ao45 t194.length co45) : Value).ownBlock ∧ some k_ ≠ ((.slice Ao46 t197.length co46) : Value).ownBlock ∧ some k_ ≠ ((.slice Ao54 t204.length co54) : Value).ownBlock ∧ some k_ ≠ ((.slice Ao55 t207.length co55) : Value).ownBlock ∧ some k_ ≠ ((.slice Ao56 t210.length co56) : Value).ownBlock) (.slice Ao57 t213.length co57) t213) ∧ Aside0 (wc.heap[gb151]? = some (.cells #[.int .i64 a0_0, .string a0_1, (.slice A0_2 l0_2.length c0_2), (.slice A0_3 l0_3.length c0_3), (.slice A0_4 l0_4.length c0_4), (.slice A0_5 l0_5.length c0_5), .int .i64 a0_6] 50 (0, 0))) ∧ Aside0 (wc.heap[gb152]? = some (.cells #[.int .i64 a1_0, .string a1_1, (.slice A1_2 l1_2.length c1_2), (.slice A1_3 l1_3.length c1_3), (.slice A1_4 l1_4.length c1_4), (.slice A1_5 l1_5.length c1_5), .int .i64 a1_6] 50 (0, 0))) ∧ Aside0 (wc.heap[gb201]? = some (.cells #[.int .i64 t186, .string t187, (.slice Ao43 t188.length co43), (.slice Ao44 t191.length co44), (.slice Ao45 t194.length co45), (.slice Ao46 t197.length co46), .int .i64 t200] 53 (0, 0))) ∧ Aside0 (wc.heap[gb217]? = some (.cells #[.int .i64 t202, .string t203, (.slice Ao54 t204.length co54), (.slice Ao55 t207.length co55), (.slice Ao56 t210.length co56), (.slice Ao57 t213.length co57), .int .i64 t216] 53 (0, 0))) ∧ Aside0 (Below w.heap.size w wc))
          case first =>
            have H := HC23.out
            clear HC23
            by_cases c60 : (t218 != t185) = true
            · rw [if_pos c60] at H
              have c60b0 : (t218 != t185) = true := c60
              (try (have c60b1 : decide (t218 = t185) = false := by simpa using c60))
              (try (have c60b2 : (t218 == t185) = false := by simpa using c60))
              (try (have c60b3 : ¬ (t218 = t185) := by simpa using c60))
              (try (have c60b4 : (!(t218 == t185)) = true := by simpa using c60))
              clear c60
              (first | rw [c60b0] | (simp only [i64_w, i32_w]; rw [c60b0]) | rw [c60b1] | rw [c60b2] | rw [c60b3] | rw [c60b4] | skip)
              obtain rfl := Option.some.inj H
              go_wp2
              go_ret
              exact ⟨by first | rfl | (simp [errW_none, errW_some] <;> rfl) | (simp [*, errW_none, errW_some] <;> rfl), by repeat (first | (with_reducible first | exact HB.out | apply below_alloc | apply pw_below_drewN | apply below_drew1 | refine below_set ?_ GE151.out | refine below_set ?_ GE152.out | refine below_set ?_ GE201.out | refine below_set ?_ GE217.out) | exact HB.out)⟩
            · rw [if_neg c60] at H
              have c60b0 : (t218 != t185) = false := by simpa using c60
              (try (have c60b1 : decide (t218 = t185) = true := by simpa using c60))
              (try (have c60b2 : (t218 == t185) = true := by simpa using c60))
              (try (have c60b3 : (!(t218 == t185)) = false := by simpa using c60))
              clear c60
              (first | rw [c60b0] | (simp only [i64_w, i32_w]; rw [c60b0]) | rw [c60b1] | rw [c60b2] | rw [c60b3] | rw [c60b4] | skip)
              have H' := aM H
              clear H
              go_wp2
              go_meet
              case rel => exact ⟨_, H', ⟨by have := HJ3.out; have := HJ11.out; first | omega | exact Nat.le_refl _⟩, ⟨by (with_reducible repeat (first | apply rA | apply rN | apply rD)); exact Kd.R_mono HO190.out (fun _ hk => ⟨hk.1.1.1.1.1.1.1.1.1.1.1.1.1, ⟨hk.1.1.1.1.1.1.1.1.1.1.1.1.2.1, ⟨hk.1.1.1.1.1.1.1.1.1.1.1.1.2.2, ⟨hk.1.1.1.2, ⟨hk.1.1.2, ⟨hk.1.2, hk.2⟩⟩⟩⟩⟩⟩)⟩, ⟨by (with_reducible repeat (first | apply rA | apply rN | apply rD)); exact Kd.R_mono HO193.out (fun _ hk => ⟨hk.1.1.1.1.1.1.1.1.1.1.1.1.1, ⟨hk.1.1.1.1.1.1.1.1.1.1.1.1.2.1, ⟨hk.1.1.1.1.1.1.1.1.1.1.1.1.2.2, ⟨hk.1.1.1.2, ⟨hk.1.1.2, ⟨hk.1.2, hk.2⟩⟩⟩⟩⟩⟩)⟩, ⟨by (with_reducible repeat (first | apply rA | apply rN | apply rD)); exact Kd.R_mono HO196.out (fun _ hk => ⟨hk.1.1.1.1.1.1.1.1.1.1.1.1.1, ⟨hk.1.1.1.1.1.1.1.1.1.1.1.1.2.1, ⟨hk.1.1.1.1.1.1.1.1.1.1.1.1.2.2, ⟨hk.1.1.1.2, ⟨hk.1.1.2, ⟨hk.1.2, hk.2⟩⟩⟩⟩⟩⟩)⟩, ⟨by (with_reducible repeat (first | apply rA | apply rN | apply rD)); exact Kd.R_mono HO199.out (fun _ hk => ⟨hk.1.1.1.1.1.1.1.1.1.1.1.1.1, ⟨hk.1.1.1.1.1.1.1.1.1.1.1.1.2.1, ⟨hk.1.1.1.1.1.1.1.1.1.1.1.1.2.2, ⟨hk.1.1.1.2, ⟨hk.1.1.2, ⟨hk.1.2, hk.2⟩⟩⟩⟩⟩⟩)⟩, ⟨by (with_reducible repeat (first | apply rA | apply rN | apply rD)); exact Kd.R_mono HO206.out (fun _ hk => ⟨hk.1.1.1.2, ⟨hk.1.1.2, ⟨hk.1.2, ⟨hk.2, ⟨hk.1.1.1.1.1.1.1.1.1.1.1.1.1, ⟨hk.1.1.1.1.1.1.1.1.1.1.1.1.2.1, hk.1.1.1.1.1.1.1.1.1.1.1.1.2.2⟩⟩⟩⟩⟩⟩)⟩, ⟨by (with_reducible repeat (first | apply rA | apply rN | apply rD)); exact Kd.R_mono HO209.out (fun _ hk => ⟨hk.1.1.1.2, ⟨hk.1.1.2, ⟨hk.1.2, ⟨hk.2, ⟨hk.1.1.1.1.1.1.1.1.1.1.1.1.1, ⟨hk.1.1.1.1.1.1.1.1.1.1.1.1.2.1, hk.1.1.1.1.1.1.1.1.1.1.1.1.2.2⟩⟩⟩⟩⟩⟩)⟩, ⟨by (with_reducible repeat (first | apply rA | apply rN | apply rD)); exact Kd.R_mono HO212.out (fun _ hk => ⟨hk.1.1.1.2, ⟨hk.1.1.2, ⟨hk.1.2, ⟨hk.2, ⟨hk.1.1.1.1.1.1.1.1.1.1.1.1.1, ⟨hk.1.1.1.1.1.1.1.1.1.1.1.1.2.1, hk.1.1.1.1.1.1.1.1.1.1.1.1.2.2⟩⟩⟩⟩⟩⟩)⟩, ⟨by (with_reducible repeat (first | apply rA | apply rN | apply rD)); exact Kd.R_mono HO215.out (fun _ hk => ⟨hk.1.1.1.2, ⟨hk.1.1.2, ⟨hk.1.2, ⟨hk.2, ⟨hk.1.1.1.1.1.1.1.1.1.1.1.1.1, ⟨hk.1.1.1.1.1.1.1.1.1.1.1.1.2.1, hk.1.1.1.1.1.1.1.1.1.1.1.1.2.2⟩⟩⟩⟩⟩⟩)⟩, ⟨by (with_reducible repeat (first | refine blk_drewN ?_ _ | refine blk_drew ?_ | refine blk_alloc ?_ _)); exact BK151.out⟩, ⟨by (with_reducible repeat (first | refine blk_drewN ?_ _ | refine blk_drew ?_ | refine blk_alloc ?_ _)); exact BK152.out⟩, ⟨by (with_reducible repeat (first | refine blk_drewN ?_ _ | refine blk_drew ?_ | refine blk_alloc ?_ _)); exact BK201.out⟩, ⟨by (with_reducible repeat (first | refine blk_drewN ?_ _ | refine blk_drew ?_ | refine blk_alloc ?_ _)); exact BK217.out⟩, ⟨by repeat (first | (with_reducible first | exact HB.out | apply below_alloc | apply pw_below_drewN | apply below_drew1 | refine below_set ?_ GE151.out | refine below_set ?_ GE152.out | refine below_set ?_ GE201.out | refine below_set ?_ GE217.out) | exact HB.out)⟩⟩
          case rest =>
            clear HC23
            try clear c1
            try clear p2
            try clear c3
            try clear c4
            try clear c5
            try clear c6
            try clear c7
            try clear c10
            try clear c10b0
            try clear c10b1
            try clear c10b2
            try clear c13
            try clear c16
            try clear c16b0
            try clear c16b1
            try clear c16b2
            try clear c36
            try clear c40
            try clear c41
            try clear c42
            try clear c43
            try clear c50
            try clear c51
            try clear c52
            try clear c60
            try clear c60b0
            try clear c60b1
            try clear c60b2
            try clear hcz14_0
            try clear hcz14_1
            try clear hcz14_2
            try clear hcz14_3
            try clear hcz14_4
            try clear hcz14_5
            try clear hcz14_6
            try clear hcz37_0
            try clear hcz37_1
            try clear hcz37_2
            try clear hcz37_3
            try clear hcz37_4
            try clear hcz37_5
            try clear hcz37_6
            try clear hcz42_0
            try clear hcz42_1
            try clear hcz42_2
            try clear hcz42_3
            try clear hcz42_4
            try clear hcz42_5
            try clear hcz42_6
            try clear hcz47_0
            try clear hcz47_1
            try clear hcz47_2
            try clear hcz47_3
            try clear hcz47_4
            try clear hcz47_5
            try clear hcz47_6
            try clear hcz53_0
            try clear hcz53_1
            try clear hcz53_2
            try clear hcz53_3
            try clear hcz53_4
            try clear hcz53_5
            try clear hcz53_6
            try clear hcz58_0
            try clear hcz58_1
            try clear hcz58_2
            try clear hcz58_3
            try clear hcz58_4
            try clear hcz58_5
            try clear hcz58_6
            try clear hcz8_0
            try clear hcz8_1
            try clear hcz8_2
            try clear hcz8_3
            try clear hcz8_4
            try clear hcz8_5
            try clear hcz8_6
            try clear hfz14_0
            try clear hfz14_1
            try clear hfz14_2
            try clear hfz14_3
            try clear hfz14_4
            try clear hfz14_5
            try clear hfz14_6
            try clear hfz37_0
            try clear hfz37_1
            try clear hfz37_2
            try clear hfz37_3
            try clear hfz37_4
            try clear hfz37_5
            try clear hfz37_6
            try clear hfz42_0
            try clear hfz42_1
            try clear hfz42_2
            try clear hfz42_3
            try clear hfz42_4
            try clear hfz42_5
            try clear hfz42_6
            try clear hfz47_0
            try clear hfz47_1
            try clear hfz47_2
            try clear hfz47_3
            try clear hfz47_4
            try clear hfz47_5
            try clear hfz47_6
            try clear hfz53_0
            try clear hfz53_1
            try clear hfz53_2
            try clear hfz53_3
            try clear hfz53_4
            try clear hfz53_5
            try clear hfz53_6
            try clear hfz58_0
            try clear hfz58_1
            try clear hfz58_2
            try clear hfz58_3
            try clear hfz58_4
            try clear hfz58_5
            try clear hfz58_6
            try clear hfz8_0
            try clear hfz8_1
            try clear hfz8_2
            try clear hfz8_3
            try clear hfz8_4
            try clear hfz8_5
            try clear hfz8_6
            try clear p2
            obtain ⟨kq, HA, HJ22, HO_202002, HO_202003, HO_202004, HO_202005, HO_218002, HO_218003, HO_218004, HO_218005, BK151, BK152, BK201, BK217, HB⟩ := hcut
            cases kq with
            | zero => exact absurd HA.out (by simp [laws_FnExactSameLine.j2])
            | succ kj22 =>
              have H := HA.out
              clear HA
              simp only [laws_FnExactSameLine.j2] at H
              replace H := Option.bind_eq_some_iff.mp H
              obtain ⟨⟨t219, t220, t221, t224, t227, t230, t233⟩, A610, H⟩ := H
              replace H : ((laws_eqFeatureLine.f kj22 t186 t187 t188 t191 t194 t197 t200 t219 t220 t221 t224 t227 t230 t233).bind fun t234 => (if t234 = true then (laws_FnExactSameLine.j3 kj22 a1_0 a1_1 l1_2 l1_3 l1_4 l1_5 a1_6 t202 t203 t204 t207 t210 t213 t216) else (some false))) = some r := H
              have A61 := aM A610
              clear A610
              replace H := Option.bind_eq_some_iff.mp H
              obtain ⟨t234, A620, H⟩ := H
              replace H : (if t234 = true then (laws_FnExactSameLine.j3 kj22 a1_0 a1_1 l1_2 l1_3 l1_4 l1_5 a1_6 t202 t203 t204 t207 t210 t213 t216) else (some false)) = some r := H
              have A62 := aM A620
              clear A620
              have HC63 := aM H
              clear H
              try go_wp2
              have n0_ := aM (Kd.R_drew HO_202002.out)
              have n1_ := aM (Kd.R_drew HO_202003.out)
              have n2_ := aM (Kd.R_drew HO_202004.out)
              have n3_ := aM (Kd.R_drew HO_202005.out)
              have n4_ := aM (Kd.R_drew HO_218002.out)
              have n5_ := aM (Kd.R_drew HO_218003.out)
              have n6_ := aM (Kd.R_drew HO_218004.out)
              have n7_ := aM (Kd.R_drew HO_218005.out)
              have n8_ := aM (blk_drew BK151.out)
              have n9_ := aM (blk_drew BK152.out)
              have n10_ := aM (blk_drew BK201.out)
              have n11_ := aM (blk_drew BK217.out)
              have n12_ := aM (below_drew1 HB.out)
              clear HO_202002
              clear HO_202003
              clear HO_202004
              clear HO_202005
              clear HO_218002
              clear HO_218003
              clear HO_218004
              clear HO_218005
              clear BK151
              clear BK152
              clear BK201
              clear BK217
              clear HB
              have HO_202002 := n0_
              have HO_202003 := n1_
              have HO_202004 := n2_
              have HO_202005 := n3_
              have HO_218002 := n4_
              have HO_218003 := n5_
              have HO_218004 := n6_
              have HO_218005 := n7_
              have BK151 := n8_
              have BK152 := n9_
              have BK201 := n10_
              have BK217 := n11_
              have HB := n12_
              clear n0_ n1_ n2_ n3_ n4_ n5_ n6_ n7_ n8_ n9_ n10_ n11_ n12_
              refine start_ (n := 5) (S := fun w' => w'.cell? ⟨gb201, 0, none⟩ = some (.int .i64 t186) ∧ w'.cell? ⟨gb201, 1, none⟩ = some (.string t187) ∧ w'.cell? ⟨gb201, 2, none⟩ = some (.slice Ao43 t188.length co43) ∧ w'.cell? ⟨gb201, 3, none⟩ = some (.slice Ao44 t191.length co44) ∧ w'.cell? ⟨gb201, 4, none⟩ = some (.slice Ao45 t194.length co45) ∧ w'.cell? ⟨gb201, 5, none⟩ = some (.slice Ao46 t197.length co46) ∧ w'.cell? ⟨gb201, 6, none⟩ = some (.int .i64 t200) ∧ w'.cell? ⟨gb151, 0, none⟩ = some (.int .i64 a0_0) ∧ w'.cell? ⟨gb151, 1, none⟩ = some (.string a0_1) ∧ w'.cell? ⟨gb151, 2, none⟩ = some (.slice A0_2 l0_2.length c0_2) ∧ w'.cell? ⟨gb151, 3, none⟩ = some (.slice A0_3 l0_3.length c0_3) ∧ w'.cell? ⟨gb151, 4, none⟩ = some (.slice A0_4 l0_4.length c0_4) ∧ w'.cell? ⟨gb151, 5, none⟩ = some (.slice A0_5 l0_5.length c0_5) ∧ w'.cell? ⟨gb151, 6, none⟩ = some (.int .i64 a0_6)) (ds := []) #[false, false, false, false, false] (by kernel_rfl) rfl rfl ⟨(blk_cell BK201.out 0).trans rfl, (blk_cell BK201.out 1).trans rfl, (blk_cell BK201.out 2).trans rfl, (blk_cell BK201.out 3).trans rfl, (blk_cell BK201.out 4).trans rfl, (blk_cell BK201.out 5).trans rfl, (blk_cell BK201.out 6).trans rfl, (blk_cell BK151.out 0).trans rfl, (blk_cell BK151.out 1).trans rfl, (blk_cell BK151.out 2).trans rfl, (blk_cell BK151.out 3).trans rfl, (blk_cell BK151.out 4).trans rfl, (blk_cell BK151.out 5).trans rfl, (blk_cell BK151.out 6).trans rfl⟩ (fun hHeld => ?_)
              generalize wc.drew = w64 at HO_202002 HO_202003 HO_202004 HO_202005 HO_218002 HO_218003 HO_218004 HO_218005 BK151 BK152 BK201 BK217 HB hHeld ⊢
              refine take_ (i := 0) (N := some 35) (v := ?_) (a' := ?_) #[true, false, false, false, false] rfl rfl (by kernel_rfl) (fun _ _ _ h => h) (Or.inl ⟨by rfl, ?_⟩) hHeld ?_ ?_
              rotate_left
              · rintro w' ⟨s0, s1, s2, s3, s4, s5, s6, s7, s8, s9, s10, s11, s12, s13⟩
                go_simp
                with_reducible rfl
              rotate_left
              · simp only [Act.put, List.setIfInBounds_toArray, List.set_cons_zero, List.set_cons_succ, i64_w, i32_w]
                rfl
              refine take_ (i := 1) (N := some 36) (v := ?_) (a' := ?_) #[true, true, false, false, false] rfl rfl (by kernel_rfl) (fun _ _ _ h => h) (Or.inl ⟨by rfl, ?_⟩) hHeld ?_ ?_
              rotate_left
              · rintro w' ⟨s0, s1, s2, s3, s4, s5, s6, s7, s8, s9, s10, s11, s12, s13⟩
                go_simp
                with_reducible rfl
              rotate_left
              · simp only [Act.put, List.setIfInBounds_toArray, List.set_cons_zero, List.set_cons_succ, i64_w, i32_w]
                rfl
              refine one_ (i := 2) (N := some 37) #[true, true, true, false, false] rfl rfl (by kernel_rfl) (by decide) (fun K hK => ?_)
              refine goes_ Try.func42 (by kernel_rfl) rfl #[.agg #[.int .i64 a0_0, .string a0_1, .slice A0_2 l0_2.length c0_2, .slice A0_3 l0_3.length c0_3, .slice A0_4 l0_4.length c0_4, .slice A0_5 l0_5.length c0_5, .int .i64 a0_6]] (by rfl) rfl rfl (by (try simp only [List.map_toArray, List.map_cons, List.map_nil]); first | done | rfl | (simp only [List.length_drop, List.length_take]; rfl)) ?_
              with_reducible refine (laws_toFeatureLine.calls kj22 a0_0 a0_1 _ _ l0_2 _ _ l0_3 _ _ l0_4 _ _ l0_5 a0_6 t219 t220 t221 t224 t227 t230 t233 _ ?side1 ?side2 ?side3 ?side4 ?side5 ?side6 ?side7 ?side8 A61.out).mono ?_
              (case side1 => repeat (first | exact (Kd.C_below HR0_2.out HB.out) | (with_reducible refine Kd.C_alloc ?_ _) | (with_reducible refine Kd.C_drewN ?_ _) | (with_reducible refine Kd.C_drew ?_)))
              (case side2 => exact HC0_2.out)
              (case side3 => repeat (first | exact (Kd.C_below HR0_3.out HB.out) | (with_reducible refine Kd.C_alloc ?_ _) | (with_reducible refine Kd.C_drewN ?_ _) | (with_reducible refine Kd.C_drew ?_)))
              (case side4 => exact HC0_3.out)
              (case side5 => repeat (first | exact (Kd.C_below HR0_4.out HB.out) | (with_reducible refine Kd.C_alloc ?_ _) | (with_reducible refine Kd.C_drewN ?_ _) | (with_reducible refine Kd.C_drew ?_)))
              (case side6 => exact HC0_4.out)
              (case side7 => repeat (first | exact (Kd.C_below HR0_5.out HB.out) | (with_reducible refine Kd.C_alloc ?_ _) | (with_reducible refine Kd.C_drewN ?_ _) | (with_reducible refine Kd.C_drew ?_)))
              (case side8 => exact HC0_5.out)
              rintro e w65 ⟨v222, v225, v228, v231, rfl, ho0, ho1, ho2, ho3, hb⟩
              refine ⟨_, rfl, ?_⟩
              have n0_ := aM (Kd.R_mono (Kd.R_told (Kd.R_told (Kd.R_told (Kd.R_told (Kd.R_old (by (with_reducible repeat (first | apply rA | apply rN | apply rD)); exact HO_202002.out) hb) (Kd.R_base ho0)) (Kd.R_base ho1)) (Kd.R_base ho2)) (Kd.R_base ho3)) h1_)
              have n1_ := aM (Kd.R_mono (Kd.R_told (Kd.R_told (Kd.R_told (Kd.R_told (Kd.R_old (by (with_reducible repeat (first | apply rA | apply rN | apply rD)); exact HO_202003.out) hb) (Kd.R_base ho0)) (Kd.R_base ho1)) (Kd.R_base ho2)) (Kd.R_base ho3)) h1_)
              have n2_ := aM (Kd.R_mono (Kd.R_told (Kd.R_told (Kd.R_told (Kd.R_told (Kd.R_old (by (with_reducible repeat (first | apply rA | apply rN | apply rD)); exact HO_202004.out) hb) (Kd.R_base ho0)) (Kd.R_base ho1)) (Kd.R_base ho2)) (Kd.R_base ho3)) h1_)
              have n3_ := aM (Kd.R_mono (Kd.R_told (Kd.R_told (Kd.R_told (Kd.R_told (Kd.R_old (by (with_reducible repeat (first | apply rA | apply rN | apply rD)); exact HO_202005.out) hb) (Kd.R_base ho0)) (Kd.R_base ho1)) (Kd.R_base ho2)) (Kd.R_base ho3)) h1_)
              have n4_ := aM (Kd.R_mono (Kd.R_told (Kd.R_told (Kd.R_told (Kd.R_told (Kd.R_old (by (with_reducible repeat (first | apply rA | apply rN | apply rD)); exact HO_218002.out) hb) (Kd.R_base ho0)) (Kd.R_base ho1)) (Kd.R_base ho2)) (Kd.R_base ho3)) h1_)
              have n5_ := aM (Kd.R_mono (Kd.R_told (Kd.R_told (Kd.R_told (Kd.R_told (Kd.R_old (by (with_reducible repeat (first | apply rA | apply rN | apply rD)); exact HO_218003.out) hb) (Kd.R_base ho0)) (Kd.R_base ho1)) (Kd.R_base ho2)) (Kd.R_base ho3)) h1_)
              have n6_ := aM (Kd.R_mono (Kd.R_told (Kd.R_told (Kd.R_told (Kd.R_told (Kd.R_old (by (with_reducible repeat (first | apply rA | apply rN | apply rD)); exact HO_218004.out) hb) (Kd.R_base ho0)) (Kd.R_base ho1)) (Kd.R_base ho2)) (Kd.R_base ho3)) h1_)
              have n7_ := aM (Kd.R_mono (Kd.R_told (Kd.R_told (Kd.R_told (Kd.R_told (Kd.R_old (by (with_reducible repeat (first | apply rA | apply rN | apply rD)); exact HO_218005.out) hb) (Kd.R_base ho0)) (Kd.R_base ho1)) (Kd.R_base ho2)) (Kd.R_base ho3)) h1_)
              have n8_ := aM (Kd.R_lower (Kd.R_new' (Kd.R_new' (Kd.R_new' (Kd.R_new' (Kd.R_new' (Kd.R_new' (Kd.R_new' (Kd.R_new' ho0 (Kd.R_lt (by (with_reducible repeat (first | apply rA | apply rN | apply rD)); exact HO_202002.out))) (Kd.R_lt (by (with_reducible repeat (first | apply rA | apply rN | apply rD)); exact HO_202003.out))) (Kd.R_lt (by (with_reducible repeat (first | apply rA | apply rN | apply rD)); exact HO_202004.out))) (Kd.R_lt (by (with_reducible repeat (first | apply rA | apply rN | apply rD)); exact HO_202005.out))) (Kd.R_lt (by (with_reducible repeat (first | apply rA | apply rN | apply rD)); exact HO_218002.out))) (Kd.R_lt (by (with_reducible repeat (first | apply rA | apply rN | apply rD)); exact HO_218003.out))) (Kd.R_lt (by (with_reducible repeat (first | apply rA | apply rN | apply rD)); exact HO_218004.out))) (Kd.R_lt (by (with_reducible repeat (first | apply rA | apply rN | apply rD)); exact HO_218005.out))) (below_size (by repeat (first | (with_reducible first | exact HB.out | apply below_alloc | apply pw_below_drewN | apply below_drew1 | refine below_set ?_ GE151.out | refine below_set ?_ GE152.out | refine below_set ?_ GE201.out | refine below_set ?_ GE217.out) | exact HB.out))))
              have n9_ := aM (Kd.R_lower (Kd.R_new' (Kd.R_new' (Kd.R_new' (Kd.R_new' (Kd.R_new' (Kd.R_new' (Kd.R_new' (Kd.R_new' ho1 (Kd.R_lt (by (with_reducible repeat (first | apply rA | apply rN | apply rD)); exact HO_202002.out))) (Kd.R_lt (by (with_reducible repeat (first | apply rA | apply rN | apply rD)); exact HO_202003.out))) (Kd.R_lt (by (with_reducible repeat (first | apply rA | apply rN | apply rD)); exact HO_202004.out))) (Kd.R_lt (by (with_reducible repeat (first | apply rA | apply rN | apply rD)); exact HO_202005.out))) (Kd.R_lt (by (with_reducible repeat (first | apply rA | apply rN | apply rD)); exact HO_218002.out))) (Kd.R_lt (by (with_reducible repeat (first | apply rA | apply rN | apply rD)); exact HO_218003.out))) (Kd.R_lt (by (with_reducible repeat (first | apply rA | apply rN | apply rD)); exact HO_218004.out))) (Kd.R_lt (by (with_reducible repeat (first | apply rA | apply rN | apply rD)); exact HO_218005.out))) (below_size (by repeat (first | (with_reducible first | exact HB.out | apply below_alloc | apply pw_below_drewN | apply below_drew1 | refine below_set ?_ GE151.out | refine below_set ?_ GE152.out | refine below_set ?_ GE201.out | refine below_set ?_ GE217.out) | exact HB.out))))
              have n10_ := aM (Kd.R_lower (Kd.R_new' (Kd.R_new' (Kd.R_new' (Kd.R_new' (Kd.R_new' (Kd.R_new' (Kd.R_new' (Kd.R_new' ho2 (Kd.R_lt (by (with_reducible repeat (first | apply rA | apply rN | apply rD)); exact HO_202002.out))) (Kd.R_lt (by (with_reducible repeat (first | apply rA | apply rN | apply rD)); exact HO_202003.out))) (Kd.R_lt (by (with_reducible repeat (first | apply rA | apply rN | apply rD)); exact HO_202004.out))) (Kd.R_lt (by (with_reducible repeat (first | apply rA | apply rN | apply rD)); exact HO_202005.out))) (Kd.R_lt (by (with_reducible repeat (first | apply rA | apply rN | apply rD)); exact HO_218002.out))) (Kd.R_lt (by (with_reducible repeat (first | apply rA | apply rN | apply rD)); exact HO_218003.out))) (Kd.R_lt (by (with_reducible repeat (first | apply rA | apply rN | apply rD)); exact HO_218004.out))) (Kd.R_lt (by (with_reducible repeat (first | apply rA | apply rN | apply rD)); exact HO_218005.out))) (below_size (by repeat (first | (with_reducible first | exact HB.out | apply below_alloc | apply pw_below_drewN | apply below_drew1 | refine below_set ?_ GE151.out | refine below_set ?_ GE152.out | refine below_set ?_ GE201.out | refine below_set ?_ GE217.out) | exact HB.out))))
              have n11_ := aM (Kd.R_lower (Kd.R_new' (Kd.R_new' (Kd.R_new' (Kd.R_new' (Kd.R_new' (Kd.R_new' (Kd.R_new' (Kd.R_new' ho3 (Kd.R_lt (by (with_reducible repeat (first | apply rA | apply rN | apply rD)); exact HO_202002.out))) (Kd.R_lt (by (with_reducible repeat (first | apply rA | apply rN | apply rD)); exact HO_202003.out))) (Kd.R_lt (by (with_reducible repeat (first | apply rA | apply rN | apply rD)); exact HO_202004.out))) (Kd.R_lt (by (with_reducible repeat (first | apply rA | apply rN | apply rD)); exact HO_202005.out))) (Kd.R_lt (by (with_reducible repeat (first | apply rA | apply rN | apply rD)); exact HO_218002.out))) (Kd.R_lt (by (with_reducible repeat (first | apply rA | apply rN | apply rD)); exact HO_218003.out))) (Kd.R_lt (by (with_reducible repeat (first | apply rA | apply rN | apply rD)); exact HO_218004.out))) (Kd.R_lt (by (with_reducible repeat (first | apply rA | apply rN | apply rD)); exact HO_218005.out))) (below_size (by repeat (first | (with_reducible first | exact HB.out | apply below_alloc | apply pw_below_drewN | apply below_drew1 | refine below_set ?_ GE151.out | refine below_set ?_ GE152.out | refine below_set ?_ GE201.out | refine below_set ?_ GE217.out) | exact HB.out))))
              have n12_ := aM (blk_below (g := gb151) (o := .cells #[.int .i64 a0_0, .string a0_1, .slice A0_2 l0_2.length c0_2, .slice A0_3 l0_3.length c0_3, .slice A0_4 l0_4.length c0_4, .slice A0_5 l0_5.length c0_5, .int .i64 a0_6] 50 (0, 0)) (by (with_reducible repeat (first | refine blk_drewN ?_ _ | refine blk_drew ?_ | refine blk_alloc ?_ _)); exact BK151.out) hb)
              have n13_ := aM (blk_below (g := gb152) (o := .cells #[.int .i64 a1_0, .string a1_1, .slice A1_2 l1_2.length c1_2, .slice A1_3 l1_3.length c1_3, .slice A1_4 l1_4.length c1_4, .slice A1_5 l1_5.length c1_5, .int .i64 a1_6] 50 (0, 0)) (by (with_reducible repeat (first | refine blk_drewN ?_ _ | refine blk_drew ?_ | refine blk_alloc ?_ _)); exact BK152.out) hb)
              have n14_ := aM (blk_below (g := gb201) (o := .cells #[.int .i64 t186, .string t187, .slice Ao43 t188.length co43, .slice Ao44 t191.length co44, .slice Ao45 t194.length co45, .slice Ao46 t197.length co46, .int .i64 t200] 53 (0, 0)) (by (with_reducible repeat (first | refine blk_drewN ?_ _ | refine blk_drew ?_ | refine blk_alloc ?_ _)); exact BK201.out) hb)
              have n15_ := aM (blk_below (g := gb217) (o := .cells #[.int .i64 t202, .string t203, .slice Ao54 t204.length co54, .slice Ao55 t207.length co55, .slice Ao56 t210.length co56, .slice Ao57 t213.length co57, .int .i64 t216] 53 (0, 0)) (by (with_reducible repeat (first | refine blk_drewN ?_ _ | refine blk_drew ?_ | refine blk_alloc ?_ _)); exact BK217.out) hb)
              have n16_ := aM (below_step (by repeat (first | (with_reducible first | exact HB.out | apply below_alloc | apply pw_below_drewN | apply below_drew1 | refine below_set ?_ GE151.out | refine below_set ?_ GE152.out | refine below_set ?_ GE201.out | refine below_set ?_ GE217.out) | exact HB.out)) hb)
              clear HO_202002
              clear HO_202003
              clear HO_202004
              clear HO_202005
              clear HO_218002
              clear HO_218003
              clear HO_218004
              clear HO_218005
              clear BK151
              clear BK152
              clear BK201
              clear BK217
              clear HB
              have HO_202002 := n0_
              have HO_202003 := n1_
              have HO_202004 := n2_
              have HO_202005 := n3_
              have HO_218002 := n4_
              have HO_218003 := n5_
              have HO_218004 := n6_
              have HO_218005 := n7_
              have HO223 := n8_
              have HO226 := n9_
              have HO229 := n10_
              have HO232 := n11_
              have BK151 := n12_
              have BK152 := n13_
              have BK201 := n14_
              have BK217 := n15_
              have HB := n16_
              clear n0_ n1_ n2_ n3_ n4_ n5_ n6_ n7_ n8_ n9_ n10_ n11_ n12_ n13_ n14_ n15_ n16_
              (try clear hb)
              (try clear hb2)
              (try clear hk)
              (try clear hi)
              (try clear ho0)
              (try clear ho1)
              (try clear ho2)
              (try clear ho3)
              obtain ⟨Ao66, co66, eo66⟩ := Kd.R_slice HO223.out
              (first | subst eo66 | (injection eo66 with f1_ f2_ f3_; have f4_ := f1_.symm; have f5_ := f3_.symm; clear f1_ f2_ f3_; subst f4_; subst f5_))
              obtain ⟨Ao67, co67, eo67⟩ := Kd.R_slice HO226.out
              (first | subst eo67 | (injection eo67 with f1_ f2_ f3_; have f4_ := f1_.symm; have f5_ := f3_.symm; clear f1_ f2_ f3_; subst f4_; subst f5_))
              obtain ⟨Ao68, co68, eo68⟩ := Kd.R_slice HO229.out
              (first | subst eo68 | (injection eo68 with f1_ f2_ f3_; have f4_ := f1_.symm; have f5_ := f3_.symm; clear f1_ f2_ f3_; subst f4_; subst f5_))
              obtain ⟨Ao69, co69, eo69⟩ := Kd.R_slice HO232.out
              (first | subst eo69 | (injection eo69 with f1_ f2_ f3_; have f4_ := f1_.symm; have f5_ := f3_.symm; clear f1_ f2_ f3_; subst f4_; subst f5_))
              refine hK.out _ _ ⟨(blk_cell BK201.out 0).trans rfl, (blk_cell BK201.out 1).trans rfl, (blk_cell BK201.out 2).trans rfl, (blk_cell BK201.out 3).trans rfl, (blk_cell BK201.out 4).trans rfl, (blk_cell BK201.out 5).trans rfl, (blk_cell BK201.out 6).trans rfl, (blk_cell BK151.out 0).trans rfl, (blk_cell BK151.out 1).trans rfl, (blk_cell BK151.out 2).trans rfl, (blk_cell BK151.out 3).trans rfl, (blk_cell BK151.out 4).trans rfl, (blk_cell BK151.out 5).trans rfl, (blk_cell BK151.out 6).trans rfl⟩ (fun hHeld => ?_)
              clear hK K
              refine norm_ (a' := ?_) ?_ ?_
              rotate_left
              · show Act.put _ (some 37) _ = _
                simp only [Act.put, List.setIfInBounds_toArray, List.set_cons_zero, List.set_cons_succ, i64_w, i32_w]
                rfl
              refine one_ (i := 3) (N := some 38) #[true, true, true, true, false] rfl rfl (by kernel_rfl) (by decide) (fun K hK => ?_)
              refine goes_ Try.func44 (by kernel_rfl) rfl #[.agg #[.int .i64 t186, .string t187, .slice Ao43 t188.length co43, .slice Ao44 t191.length co44, .slice Ao45 t194.length co45, .slice Ao46 t197.length co46, .int .i64 t200], .agg #[.int .i64 t219, .string t220, .slice Ao66 t221.length co66, .slice Ao67 t224.length co67, .slice Ao68 t227.length co68, .slice Ao69 t230.length co69, .int .i64 t233]] (by rfl) rfl rfl (by (try simp only [List.map_toArray, List.map_cons, List.map_nil]); first | done | rfl | (simp only [List.length_drop, List.length_take]; rfl)) ?_
              with_reducible refine (laws_eqFeatureLine.calls kj22 t186 t187 _ _ t188 _ _ t191 _ _ t194 _ _ t197 t200 t219 t220 _ _ t221 _ _ t224 _ _ t227 _ _ t230 t233 t234 _ ?side1 ?side2 ?side3 ?side4 ?side5 ?side6 ?side7 ?side8 ?side9 ?side10 ?side11 ?side12 ?side13 ?side14 ?side15 ?side16 A62.out).mono ?_
              (case side1 => repeat (first | exact (Kd.R_reads' HO_202002.out).2.2 | (with_reducible refine Kd.C_alloc ?_ _) | (with_reducible refine Kd.C_drewN ?_ _) | (with_reducible refine Kd.C_drew ?_)))
              (case side2 => exact (Kd.R_reads' HO_202002.out).2.1)
              (case side3 => repeat (first | exact (Kd.R_reads' HO_202003.out).2.2 | (with_reducible refine Kd.C_alloc ?_ _) | (with_reducible refine Kd.C_drewN ?_ _) | (with_reducible refine Kd.C_drew ?_)))
              (case side4 => exact (Kd.R_reads' HO_202003.out).2.1)
              (case side5 => repeat (first | exact (Kd.R_reads' HO_202004.out).2.2 | (with_reducible refine Kd.C_alloc ?_ _) | (with_reducible refine Kd.C_drewN ?_ _) | (with_reducible refine Kd.C_drew ?_)))
              (case side6 => exact (Kd.R_reads' HO_202004.out).2.1)
              (case side7 => repeat (first | exact (Kd.R_reads' HO_202005.out).2.2 | (with_reducible refine Kd.C_alloc ?_ _) | (with_reducible refine Kd.C_drewN ?_ _) | (with_reducible refine Kd.C_drew ?_)))
              (case side8 => exact (Kd.R_reads' HO_202005.out).2.1)
              (case side9 => repeat (first | exact (Kd.R_reads' HO223.out).2.2 | (with_reducible refine Kd.C_alloc ?_ _) | (with_reducible refine Kd.C_drewN ?_ _) | (with_reducible refine Kd.C_drew ?_)))
              (case side10 => exact (Kd.R_reads' HO223.out).2.1)
              (case side11 => repeat (first | exact (Kd.R_reads' HO226.out).2.2 | (with_reducible refine Kd.C_alloc ?_ _) | (with_reducible refine Kd.C_drewN ?_ _) | (with_reducible refine Kd.C_drew ?_)))
              (case side12 => exact (Kd.R_reads' HO226.out).2.1)
              (case side13 => repeat (first | exact (Kd.R_reads' HO229.out).2.2 | (with_reducible refine Kd.C_alloc ?_ _) | (with_reducible refine Kd.C_drewN ?_ _) | (with_reducible refine Kd.C_drew ?_)))
              (case side14 => exact (Kd.R_reads' HO229.out).2.1)
              (case side15 => repeat (first | exact (Kd.R_reads' HO232.out).2.2 | (with_reducible refine Kd.C_alloc ?_ _) | (with_reducible refine Kd.C_drewN ?_ _) | (with_reducible refine Kd.C_drew ?_)))
              (case side16 => exact (Kd.R_reads' HO232.out).2.1)
              rintro e w70 ⟨rfl, hb⟩
              refine ⟨_, rfl, ?_⟩
              have n0_ := aM (Kd.R_below (by (with_reducible repeat (first | apply rA | apply rN | apply rD)); exact HO_202002.out) hb)
              have n1_ := aM (Kd.R_below (by (with_reducible repeat (first | apply rA | apply rN | apply rD)); exact HO_202003.out) hb)
              have n2_ := aM (Kd.R_below (by (with_reducible repeat (first | apply rA | apply rN | apply rD)); exact HO_202004.out) hb)
              have n3_ := aM (Kd.R_below (by (with_reducible repeat (first | apply rA | apply rN | apply rD)); exact HO_202005.out) hb)
              have n4_ := aM (Kd.R_below (by (with_reducible repeat (first | apply rA | apply rN | apply rD)); exact HO_218002.out) hb)
              have n5_ := aM (Kd.R_below (by (with_reducible repeat (first | apply rA | apply rN | apply rD)); exact HO_218003.out) hb)
              have n6_ := aM (Kd.R_below (by (with_reducible repeat (first | apply rA | apply rN | apply rD)); exact HO_218004.out) hb)
              have n7_ := aM (Kd.R_below (by (with_reducible repeat (first | apply rA | apply rN | apply rD)); exact HO_218005.out) hb)
              have n8_ := aM (Kd.R_below (by (with_reducible repeat (first | apply rA | apply rN | apply rD)); exact HO223.out) hb)
              have n9_ := aM (Kd.R_below (by (with_reducible repeat (first | apply rA | apply rN | apply rD)); exact HO226.out) hb)
              have n10_ := aM (Kd.R_below (by (with_reducible repeat (first | apply rA | apply rN | apply rD)); exact HO229.out) hb)
              have n11_ := aM (Kd.R_below (by (with_reducible repeat (first | apply rA | apply rN | apply rD)); exact HO232.out) hb)
              have n12_ := aM (blk_below (g := gb151) (o := .cells #[.int .i64 a0_0, .string a0_1, .slice A0_2 l0_2.length c0_2, .slice A0_3 l0_3.length c0_3, .slice A0_4 l0_4.length c0_4, .slice A0_5 l0_5.length c0_5, .int .i64 a0_6] 50 (0, 0)) (by (with_reducible repeat (first | refine blk_drewN ?_ _ | refine blk_drew ?_ | refine blk_alloc ?_ _)); exact BK151.out) hb)
              have n13_ := aM (blk_below (g := gb152) (o := .cells #[.int .i64 a1_0, .string a1_1, .slice A1_2 l1_2.length c1_2, .slice A1_3 l1_3.length c1_3, .slice A1_4 l1_4.length c1_4, .slice A1_5 l1_5.length c1_5, .int .i64 a1_6] 50 (0, 0)) (by (with_reducible repeat (first | refine blk_drewN ?_ _ | refine blk_drew ?_ | refine blk_alloc ?_ _)); exact BK152.out) hb)
              have n14_ := aM (blk_below (g := gb201) (o := .cells #[.int .i64 t186, .string t187, .slice Ao43 t188.length co43, .slice Ao44 t191.length co44, .slice Ao45 t194.length co45, .slice Ao46 t197.length co46, .int .i64 t200] 53 (0, 0)) (by (with_reducible repeat (first | refine blk_drewN ?_ _ | refine blk_drew ?_ | refine blk_alloc ?_ _)); exact BK201.out) hb)
              have n15_ := aM (blk_below (g := gb217) (o := .cells #[.int .i64 t202, .string t203, .slice Ao54 t204.length co54, .slice Ao55 t207.length co55, .slice Ao56 t210.length co56, .slice Ao57 t213.length co57, .int .i64 t216] 53 (0, 0)) (by (with_reducible repeat (first | refine blk_drewN ?_ _ | refine blk_drew ?_ | refine blk_alloc ?_ _)); exact BK217.out) hb)
              have n16_ := aM (below_step (by repeat (first | (with_reducible first | exact HB.out | apply below_alloc | apply pw_below_drewN | apply below_drew1 | refine below_set ?_ GE151.out | refine below_set ?_ GE152.out | refine below_set ?_ GE201.out | refine below_set ?_ GE217.out) | exact HB.out)) hb)
              clear HO_202002
              clear HO_202003
              clear HO_202004
              clear HO_202005
              clear HO_218002
              clear HO_218003
              clear HO_218004
              clear HO_218005
              clear HO223
              clear HO226
              clear HO229
              clear HO232
              clear BK151
              clear BK152
              clear BK201
              clear BK217
              clear HB
              have HO_202002 := n0_
              have HO_202003 := n1_
              have HO_202004 := n2_
              have HO_202005 := n3_
              have HO_218002 := n4_
              have HO_218003 := n5_
              have HO_218004 := n6_
              have HO_218005 := n7_
              have HO223 := n8_
              have HO226 := n9_
              have HO229 := n10_
              have HO232 := n11_
              have BK151 := n12_
              have BK152 := n13_
              have BK201 := n14_
              have BK217 := n15_
              have HB := n16_
              clear n0_ n1_ n2_ n3_ n4_ n5_ n6_ n7_ n8_ n9_ n10_ n11_ n12_ n13_ n14_ n15_ n16_
              (try clear hb)
              (try clear hb2)
              (try clear hk)
              (try clear hi)
              refine hK.out _ _ ⟨(blk_cell BK201.out 0).trans rfl, (blk_cell BK201.out 1).trans rfl, (blk_cell BK201.out 2).trans rfl, (blk_cell BK201.out 3).trans rfl, (blk_cell BK201.out 4).trans rfl, (blk_cell BK201.out 5).trans rfl, (blk_cell BK201.out 6).trans rfl, (blk_cell BK151.out 0).trans rfl, (blk_cell BK151.out 1).trans rfl, (blk_cell BK151.out 2).trans rfl, (blk_cell BK151.out 3).trans rfl, (blk_cell BK151.out 4).trans rfl, (blk_cell BK151.out 5).trans rfl, (blk_cell BK151.out 6).trans rfl⟩ (fun hHeld => ?_)
              clear hK K
              refine norm_ (a' := ?_) ?_ ?_
              rotate_left
              · show Act.put _ (some 38) _ = _
                simp only [Act.put, List.setIfInBounds_toArray, List.set_cons_zero, List.set_cons_succ, i64_w, i32_w]
                rfl
              refine pure_ (i := 4) (N := some 39) (v := ?_) (a' := ?_) #[true, true, true, true, true] rfl rfl (by kernel_rfl) (fun _ _ _ h => h) (Or.inl ⟨by rfl, ?_⟩) ?_ ?_
              rotate_left
              · intro w'
                go_simp
                with_reducible rfl
              rotate_left
              · simp only [Act.put, List.setIfInBounds_toArray, List.set_cons_zero, List.set_cons_succ, i64_w, i32_w]
                rfl
              refine done_ (by kernel_rfl) ?_
              go_upto_if 39 with (fail)
              go_cut [] (fun wc => ∃ (kq : Nat), Aside0 (laws_FnExactSameLine.j3 kq a1_0 a1_1 l1_2 l1_3 l1_4 l1_5 a1_6 t202 t203 t204 t207 t210 t213 t216 = some r) ∧ Aside0 (kq ≤ kj22) ∧ Aside0 (Kd.R Kd.string 9 wc w.heap.size (fun k_ => some k_ ≠ ((.slice Ao44 t191.length co44) : Value).ownBlock ∧ some k_ ≠ ((.slice Ao45 t194.length co45) : Value).ownBlock ∧ some k_ ≠ ((.slice Ao46 t197.length co46) : Value).ownBlock ∧ some k_ ≠ ((.slice Ao54 t204.length co54) : Value).ownBlock ∧ some k_ ≠ ((.slice Ao55 t207.length co55) : Value).ownBlock ∧ some k_ ≠ ((.slice Ao56 t210.length co56) : Value).ownBlock ∧ some k_ ≠ ((.slice Ao57 t213.length co57) : Value).ownBlock) (.slice Ao43 t188.length co43) t188) ∧ Aside0 (Kd.R Kd.string 9 wc w.heap.size (fun k_ => some k_ ≠ ((.slice Ao43 t188.length co43) : Value).ownBlock ∧ some k_ ≠ ((.slice Ao45 t194.length co45) : Value).ownBlock ∧ some k_ ≠ ((.slice Ao46 t197.length co46) : Value).ownBlock ∧ some k_ ≠ ((.slice Ao54 t204.length co54) : Value).ownBlock ∧ some k_ ≠ ((.slice Ao55 t207.length co55) : Value).ownBlock ∧ some k_ ≠ ((.slice Ao56 t210.length co56) : Value).ownBlock ∧ some k_ ≠ ((.slice Ao57 t213.length co57) : Value).ownBlock) (.slice Ao44 t191.length co44) t191) ∧ Aside0 (Kd.R Kd.string 9 wc w.heap.size (fun k_ => some k_ ≠ ((.slice Ao43 t188.length co43) : Value).ownBlock ∧ some k_ ≠ ((.slice Ao44 t191.length co44) : Value).ownBlock ∧ some k_ ≠ ((.slice Ao46 t197.length co46) : Value).ownBlock ∧ some k_ ≠ ((.slice Ao54 t204.length co54) : Value).ownBlock ∧ some k_ ≠ ((.slice Ao55 t207.length co55) : Value).ownBlock ∧ some k_ ≠ ((.slice Ao56 t210.length co56) : Value).ownBlock ∧ some k_ ≠ ((.slice Ao57 t213.length co57) : Value).ownBlock) (.slice Ao45 t194.length co45) t194) ∧ Aside0 (Kd.R Kd.string 9 wc w.heap.size (fun k_ => some k_ ≠ ((.slice Ao43 t188.length co43) : Value).ownBlock ∧ some k_ ≠ ((.slice Ao44 t191.length co44) : Value).ownBlock ∧ some k_ ≠ ((.slice Ao45 t194.length co45) : Value).ownBlock ∧ some k_ ≠ ((.slice Ao54 t204.length co54) : Value).ownBlock ∧ some k_ ≠ ((.slice Ao55 t207.length co55) : Value).ownBlock ∧ some k_ ≠ ((.slice Ao56 t210.length co56) : Value).ownBlock ∧ some k_ ≠ ((.slice Ao57 t213.length co57) : Value).ownBlock) (.slice Ao46 t197.length co46) t197) ∧ Aside0 (Kd.R Kd.string 9 wc w.heap.size (fun k_ => some k_ ≠ ((.slice Ao43 t188.length co43) : Value).ownBlock ∧ some k_ ≠ ((.slice Ao44 t191.length co44) : Value).ownBlock ∧ some k_ ≠ ((.slice Ao45 t194.length co45) : Value).ownBlock ∧ some k_ ≠ ((.slice Ao46 t197.length co46) : Value).ownBlock ∧ some k_ ≠ ((.slice Ao55 t207.length co55) : Value).ownBlock ∧ some k_ ≠ ((.slice Ao56 t210.length co56) : Value).ownBlock ∧ some k_ ≠ ((.slice Ao57 t213.length co57) : Value).ownBlock) (.slice Ao54 t204.length co54) t204) ∧ Aside0 (Kd.R Kd.string 9 wc w.heap.size (fun k_ => some k_ ≠ ((.slice Ao43 t188.length co43) : Value).ownBlock ∧ some k_ ≠ ((.slice Ao44 t191.length co44) : Value).ownBlock ∧ some k_ ≠ ((.slice Ao45 t194.length co45) : Value).ownBlock ∧ some k_ ≠ ((.slice Ao46 t197.length co46) : Value).ownBlock ∧ some k_ ≠ ((.slice Ao54 t204.length co54) : Value).ownBlock ∧ some k_ ≠ ((.slice Ao56 t210.length co56) : Value).ownBlock ∧ some k_ ≠ ((.slice Ao57 t213.length co57) : Value).ownBlock) (.slice Ao55 t207.length co55) t207) ∧ Aside0 (Kd.R Kd.string 9 wc w.heap.size (fun k_ => some k_ ≠ ((.slice Ao43 t188.length co43) : Value).ownBlock ∧ some k_ ≠ ((.slice Ao44 t191.length co44) : Value).ownBlock ∧ some k_ ≠ ((.slice Ao45 t194.length co45) : Value).ownBlock ∧ some k_ ≠ ((.slice Ao46 t197.length co46) : Value).ownBlock ∧ some k_ ≠ ((.slice Ao54 t204.length co54) : Value).ownBlock ∧ some k_ ≠ ((.slice Ao55 t207.length co55) : Value).ownBlock ∧ some k_ ≠ ((.slice Ao57 t213.length co57) : Value).ownBlock) (.slice Ao56 t210.length co56) t210) ∧ Aside0 (Kd.R Kd.string 9 wc w.heap.size (fun k_ => some k_ ≠ ((.slice Ao43 t188.length co43) : Value).ownBlock ∧ some k_ ≠ ((.slice Ao44 t191.length co44) : Value).ownBlock ∧ some k_ ≠ ((.slice Ao45 t194.length co45) : Value).ownBlock ∧ some k_ ≠ ((.slice Ao46 t197.length co46) : Value).ownBlock ∧ some k_ ≠ ((.slice Ao54 t204.length co54) : Value).ownBlock ∧ some k_ ≠ ((.slice Ao55 t207.length co55) : Value).ownBlock ∧ some k_ ≠ ((.slice Ao56 t210.length co56) : Value).ownBlock) (.slice Ao57 t213.length co57) t213) ∧ Aside0 (wc.heap[gb151]? = some (.cells #[.int .i64 a0_0, .string a0_1, (.slice A0_2 l0_2.length c0_2), (.slice A0_3 l0_3.length c0_3), (.slice A0_4 l0_4.length c0_4), (.slice A0_5 l0_5.length c0_5), .int .i64 a0_6] 50 (0, 0))) ∧ Aside0 (wc.heap[gb152]? = some (.cells #[.int .i64 a1_0, .string a1_1, (.slice A1_2 l1_2.length c1_2), (.slice A1_3 l1_3.length c1_3), (.slice A1_4 l1_4.length c1_4), (.slice A1_5 l1_5.length c1_5), .int .i64 a1_6] 50 (0, 0))) ∧ Aside0 (wc.heap[gb201]? = some (.cells #[.int .i64 t186, .string t187, (.slice Ao43 t188.length co43), (.slice Ao44 t191.length co44), (.slice Ao45 t194.length co45), (.slice Ao46 t197.length co46), .int .i64 t200] 53 (0, 0))) ∧ Aside0 (wc.heap[gb217]? = some (.cells #[.int .i64 t202, .string t203, (.slice Ao54 t204.length co54), (.slice Ao55 t207.length co55), (.slice Ao56 t210.length co56), (.slice Ao57 t213.length co57), .int .i64 t216] 53 (0, 0))) ∧ Aside0 (Below w.heap.size w wc))
              case first =>
                have H := HC63.out
                clear HC63
                by_cases c71 : t234 = true
                · subst c71
                  have H1 : (laws_FnExactSameLine.j3 kj22 a1_0 a1_1 l1_2 l1_3 l1_4 l1_5 a1_6 t202 t203 t204 t207 t210 t213 t216) = some r := by rw [if_pos rfl] at H; exact H
                  clear H
                  have H := H1
                  clear H1
                  have H' := aM H
                  clear H
                  go_wp2
                  go_meet
                  case rel => exact ⟨_, H', ⟨by have := HJ3.out; have := HJ11.out; have := HJ22.out; first | omega | exact Nat.le_refl _⟩, ⟨by (with_reducible repeat (first | apply rA | apply rN | apply rD)); exact Kd.R_mono HO_202002.out (fun _ hk => ⟨hk.1.1.1.1.1, ⟨hk.1.1.1.1.2.1, ⟨hk.1.1.1.1.2.2.1, ⟨hk.1.1.1.1.2.2.2.1, ⟨hk.1.1.1.1.2.2.2.2.1, ⟨hk.1.1.1.1.2.2.2.2.2.1, hk.1.1.1.1.2.2.2.2.2.2⟩⟩⟩⟩⟩⟩)⟩, ⟨by (with_reducible repeat (first | apply rA | apply rN | apply rD)); exact Kd.R_mono HO_202003.out (fun _ hk => ⟨hk.1.1.1.1.1, ⟨hk.1.1.1.1.2.1, ⟨hk.1.1.1.1.2.2.1, ⟨hk.1.1.1.1.2.2.2.1, ⟨hk.1.1.1.1.2.2.2.2.1, ⟨hk.1.1.1.1.2.2.2.2.2.1, hk.1.1.1.1.2.2.2.2.2.2⟩⟩⟩⟩⟩⟩)⟩, ⟨by (with_reducible repeat (first | apply rA | apply rN | apply rD)); exact Kd.R_mono HO_202004.out (fun _ hk => ⟨hk.1.1.1.1.1, ⟨hk.1.1.1.1.2.1, ⟨hk.1.1.1.1.2.2.1, ⟨hk.1.1.1.1.2.2.2.1, ⟨hk.1.1.1.1.2.2.2.2.1, ⟨hk.1.1.1.1.2.2.2.2.2.1, hk.1.1.1.1.2.2.2.2.2.2⟩⟩⟩⟩⟩⟩)⟩, ⟨by (with_reducible repeat (first | apply rA | apply rN | apply rD)); exact Kd.R_mono HO_202005.out (fun _ hk => ⟨hk.1.1.1.1.1, ⟨hk.1.1.1.1.2.1, ⟨hk.1.1.1.1.2.2.1, ⟨hk.1.1.1.1.2.2.2.1, ⟨hk.1.1.1.1.2.2.2.2.1, ⟨hk.1.1.1.1.2.2.2.2.2.1, hk.1.1.1.1.2.2.2.2.2.2⟩⟩⟩⟩⟩⟩)⟩, ⟨by (with_reducible repeat (first | apply rA | apply rN | apply rD)); exact Kd.R_mono HO_218002.out (fun _ hk => ⟨hk.1.1.1.1.1, ⟨hk.1.1.1.1.2.1, ⟨hk.1.1.1.1.2.2.1, ⟨hk.1.1.1.1.2.2.2.1, ⟨hk.1.1.1.1.2.2.2.2.1, ⟨hk.1.1.1.1.2.2.2.2.2.1, hk.1.1.1.1.2.2.2.2.2.2⟩⟩⟩⟩⟩⟩)⟩, ⟨by (with_reducible repeat (first | apply rA | apply rN | apply rD)); exact Kd.R_mono HO_218003.out (fun _ hk => ⟨hk.1.1.1.1.1, ⟨hk.1.1.1.1.2.1, ⟨hk.1.1.1.1.2.2.1, ⟨hk.1.1.1.1.2.2.2.1, ⟨hk.1.1.1.1.2.2.2.2.1, ⟨hk.1.1.1.1.2.2.2.2.2.1, hk.1.1.1.1.2.2.2.2.2.2⟩⟩⟩⟩⟩⟩)⟩, ⟨by (with_reducible repeat (first | apply rA | apply rN | apply rD)); exact Kd.R_mono HO_218004.out (fun _ hk => ⟨hk.1.1.1.1.1, ⟨hk.1.1.1.1.2.1, ⟨hk.1.1.1.1.2.2.1, ⟨hk.1.1.1.1.2.2.2.1, ⟨hk.1.1.1.1.2.2.2.2.1, ⟨hk.1.1.1.1.2.2.2.2.2.1, hk.1.1.1.1.2.2.2.2.2.2⟩⟩⟩⟩⟩⟩)⟩, ⟨by (with_reducible repeat (first | apply rA | apply rN | apply rD)); exact Kd.R_mono HO_218005.out (fun _ hk => ⟨hk.1.1.1.1.1, ⟨hk.1.1.1.1.2.1, ⟨hk.1.1.1.1.2.2.1, ⟨hk.1.1.1.1.2.2.2.1, ⟨hk.1.1.1.1.2.2.2.2.1, ⟨hk.1.1.1.1.2.2.2.2.2.1, hk.1.1.1.1.2.2.2.2.2.2⟩⟩⟩⟩⟩⟩)⟩, ⟨by (with_reducible repeat (first | refine blk_drewN ?_ _ | refine blk_drew ?_ | refine blk_alloc ?_ _)); exact BK151.out⟩, ⟨by (with_reducible repeat (first | refine blk_drewN ?_ _ | refine blk_drew ?_ | refine blk_alloc ?_ _)); exact BK152.out⟩, ⟨by (with_reducible repeat (first | refine blk_drewN ?_ _ | refine blk_drew ?_ | refine blk_alloc ?_ _)); exact BK201.out⟩, ⟨by (with_reducible repeat (first | refine blk_drewN ?_ _ | refine blk_drew ?_ | refine blk_alloc ?_ _)); exact BK217.out⟩, ⟨by repeat (first | (with_reducible first | exact HB.out | apply below_alloc | apply pw_below_drewN | apply below_drew1 | refine below_set ?_ GE151.out | refine below_set ?_ GE152.out | refine below_set ?_ GE201.out | refine below_set ?_ GE217.out) | exact HB.out)⟩⟩
                · replace c71 := Bool.eq_false_iff.mpr c71
                  subst c71
                  have H1 : (some false) = some r := by rw [if_neg (show ¬ (false = true) by decide)] at H; exact H
                  clear H
                  have H := H1
                  clear H1
                  obtain rfl := Option.some.inj H
                  go_wp2
                  go_ret
                  exact ⟨by first | rfl | (simp [errW_none, errW_some] <;> rfl) | (simp [*, errW_none, errW_some] <;> rfl), by repeat (first | (with_reducible first | exact HB.out | apply below_alloc | apply pw_below_drewN | apply below_drew1 | refine below_set ?_ GE151.out | refine below_set ?_ GE152.out | refine below_set ?_ GE201.out | refine below_set ?_ GE217.out) | exact HB.out)⟩
              case rest =>
                clear HC63
                try clear c1
                try clear p2
                try clear c3
                try clear c4
                try clear c5
                try clear c6
                try clear c7
                try clear c10
                try clear c10b0
                try clear c10b1
                try clear c10b2
                try clear c13
                try clear c16
                try clear c16b0
                try clear c16b1
                try clear c16b2
                try clear c36
                try clear c40
                try clear c41
                try clear c42
                try clear c43
                try clear c44
                try clear c50
                try clear c51
                try clear c52
                try clear c60
                try clear c60b0
                try clear c60b1
                try clear c60b2
                try clear c71
                try clear hcz14_0
                try clear hcz14_1
                try clear hcz14_2
                try clear hcz14_3
                try clear hcz14_4
                try clear hcz14_5
                try clear hcz14_6
                try clear hcz37_0
                try clear hcz37_1
                try clear hcz37_2
                try clear hcz37_3
                try clear hcz37_4
                try clear hcz37_5
                try clear hcz37_6
                try clear hcz42_0
                try clear hcz42_1
                try clear hcz42_2
                try clear hcz42_3
                try clear hcz42_4
                try clear hcz42_5
                try clear hcz42_6
                try clear hcz47_0
                try clear hcz47_1
                try clear hcz47_2
                try clear hcz47_3
                try clear hcz47_4
                try clear hcz47_5
                try clear hcz47_6
                try clear hcz53_0
                try clear hcz53_1
                try clear hcz53_2
                try clear hcz53_3
                try clear hcz53_4
                try clear hcz53_5
                try clear hcz53_6
                try clear hcz58_0
                try clear hcz58_1
                try clear hcz58_2
                try clear hcz58_3
                try clear hcz58_4
                try clear hcz58_5
                try clear hcz58_6
                try clear hcz8_0
                try clear hcz8_1
                try clear hcz8_2
                try clear hcz8_3
                try clear hcz8_4
                try clear hcz8_5
                try clear hcz8_6
                try clear hfz14_0
                try clear hfz14_1
                try clear hfz14_2
                try clear hfz14_3
                try clear hfz14_4
                try clear hfz14_5
                try clear hfz14_6
                try clear hfz37_0
                try clear hfz37_1
                try clear hfz37_2
                try clear hfz37_3
                try clear hfz37_4
                try clear hfz37_5
                try clear hfz37_6
                try clear hfz42_0
                try clear hfz42_1
                try clear hfz42_2
                try clear hfz42_3
                try clear hfz42_4
                try clear hfz42_5
                try clear hfz42_6
                try clear hfz47_0
                try clear hfz47_1
                try clear hfz47_2
                try clear hfz47_3
                try clear hfz47_4
                try clear hfz47_5
                try clear hfz47_6
                try clear hfz53_0
                try clear hfz53_1
                try clear hfz53_2
                try clear hfz53_3
                try clear hfz53_4
                try clear hfz53_5
                try clear hfz53_6
                try clear hfz58_0
                try clear hfz58_1
                try clear hfz58_2
                try clear hfz58_3
                try clear hfz58_4
                try clear hfz58_5
                try clear hfz58_6
                try clear hfz8_0
                try clear hfz8_1
                try clear hfz8_2
                try clear hfz8_3
                try clear hfz8_4
                try clear hfz8_5
                try clear hfz8_6
                try clear p2
                obtain ⟨kq, HA, HJ62, HO_202002, HO_202003, HO_202004, HO_202005, HO_218002, HO_218003, HO_218004, HO_218005, BK151, BK152, BK201, BK217, HB⟩ := hcut
                cases kq with
                | zero => exact absurd HA.out (by simp [laws_FnExactSameLine.j3])
                | succ kj62 =>
                  have H := HA.out
                  clear HA
                  simp only [laws_FnExactSameLine.j3] at H
                  replace H := Option.bind_eq_some_iff.mp H
                  obtain ⟨⟨t235, t236, t237, t240, t243, t246, t249⟩, A720, H⟩ := H
                  replace H : ((laws_eqFeatureLine.f kj62 t202 t203 t204 t207 t210 t213 t216 t235 t236 t237 t240 t243 t246 t249).bind fun t250 => (if t250 = true then (some true) else (some false))) = some r := H
                  have A72 := aM A720
                  clear A720
                  replace H := Option.bind_eq_some_iff.mp H
                  obtain ⟨t250, A730, H⟩ := H
                  replace H : (if t250 = true then (some true) else (some false)) = some r := H
                  have A73 := aM A730
                  clear A730
                  by_cases c74 : t250 = true
                  · subst c74
                    have H1 : (some true) = some r := by rw [if_pos rfl] at H; exact H
                    clear H
                    have H := H1
                    clear H1
                    obtain rfl := Option.some.inj H
                    try go_wp2
                    have n0_ := aM (Kd.R_drew HO_202002.out)
                    have n1_ := aM (Kd.R_drew HO_202003.out)
                    have n2_ := aM (Kd.R_drew HO_202004.out)
                    have n3_ := aM (Kd.R_drew HO_202005.out)
                    have n4_ := aM (Kd.R_drew HO_218002.out)
                    have n5_ := aM (Kd.R_drew HO_218003.out)
                    have n6_ := aM (Kd.R_drew HO_218004.out)
                    have n7_ := aM (Kd.R_drew HO_218005.out)
                    have n8_ := aM (blk_drew BK151.out)
                    have n9_ := aM (blk_drew BK152.out)
                    have n10_ := aM (blk_drew BK201.out)
                    have n11_ := aM (blk_drew BK217.out)
                    have n12_ := aM (below_drew1 HB.out)
                    clear HO_202002
                    clear HO_202003
                    clear HO_202004
                    clear HO_202005
                    clear HO_218002
                    clear HO_218003
                    clear HO_218004
                    clear HO_218005
                    clear BK151
                    clear BK152
                    clear BK201
                    clear BK217
                    clear HB
                    have HO_202002 := n0_
                    have HO_202003 := n1_
                    have HO_202004 := n2_
                    have HO_202005 := n3_
                    have HO_218002 := n4_
                    have HO_218003 := n5_
                    have HO_218004 := n6_
                    have HO_218005 := n7_
                    have BK151 := n8_
                    have BK152 := n9_
                    have BK201 := n10_
                    have BK217 := n11_
                    have HB := n12_
                    clear n0_ n1_ n2_ n3_ n4_ n5_ n6_ n7_ n8_ n9_ n10_ n11_ n12_
                    refine start_ (n := 5) (S := fun w' => w'.cell? ⟨gb217, 0, none⟩ = some (.int .i64 t202) ∧ w'.cell? ⟨gb217, 1, none⟩ = some (.string t203) ∧ w'.cell? ⟨gb217, 2, none⟩ = some (.slice Ao54 t204.length co54) ∧ w'.cell? ⟨gb217, 3, none⟩ = some (.slice Ao55 t207.length co55) ∧ w'.cell? ⟨gb217, 4, none⟩ = some (.slice Ao56 t210.length co56) ∧ w'.cell? ⟨gb217, 5, none⟩ = some (.slice Ao57 t213.length co57) ∧ w'.cell? ⟨gb217, 6, none⟩ = some (.int .i64 t216) ∧ w'.cell? ⟨gb152, 0, none⟩ = some (.int .i64 a1_0) ∧ w'.cell? ⟨gb152, 1, none⟩ = some (.string a1_1) ∧ w'.cell? ⟨gb152, 2, none⟩ = some (.slice A1_2 l1_2.length c1_2) ∧ w'.cell? ⟨gb152, 3, none⟩ = some (.slice A1_3 l1_3.length c1_3) ∧ w'.cell? ⟨gb152, 4, none⟩ = some (.slice A1_4 l1_4.length c1_4) ∧ w'.cell? ⟨gb152, 5, none⟩ = some (.slice A1_5 l1_5.length c1_5) ∧ w'.cell? ⟨gb152, 6, none⟩ = some (.int .i64 a1_6)) (ds := []) #[false, false, false, false, false] (by kernel_rfl) rfl rfl ⟨(blk_cell BK217.out 0).trans rfl, (blk_cell BK217.out 1).trans rfl, (blk_cell BK217.out 2).trans rfl, (blk_cell BK217.out 3).trans rfl, (blk_cell BK217.out 4).trans rfl, (blk_cell BK217.out 5).trans rfl, (blk_cell BK217.out 6).trans rfl, (blk_cell BK152.out 0).trans rfl, (blk_cell BK152.out 1).trans rfl, (blk_cell BK152.out 2).trans rfl, (blk_cell BK152.out 3).trans rfl, (blk_cell BK152.out 4).trans rfl, (blk_cell BK152.out 5).trans rfl, (blk_cell BK152.out 6).trans rfl⟩ (fun hHeld => ?_)
                    generalize wc.drew = w75 at HO_202002 HO_202003 HO_202004 HO_202005 HO_218002 HO_218003 HO_218004 HO_218005 BK151 BK152 BK201 BK217 HB hHeld ⊢
                    refine take_ (i := 0) (N := some 40) (v := ?_) (a' := ?_) #[true, false, false, false, false] rfl rfl (by kernel_rfl) (fun _ _ _ h => h) (Or.inl ⟨by rfl, ?_⟩) hHeld ?_ ?_
                    rotate_left
                    · rintro w' ⟨s0, s1, s2, s3, s4, s5, s6, s7, s8, s9, s10, s11, s12, s13⟩
                      go_simp
                      with_reducible rfl
                    rotate_left
                    · simp only [Act.put, List.setIfInBounds_toArray, List.set_cons_zero, List.set_cons_succ, i64_w, i32_w]
                      rfl
                    refine take_ (i := 1) (N := some 41) (v := ?_) (a' := ?_) #[true, true, false, false, false] rfl rfl (by kernel_rfl) (fun _ _ _ h => h) (Or.inl ⟨by rfl, ?_⟩) hHeld ?_ ?_
                    rotate_left
                    · rintro w' ⟨s0, s1, s2, s3, s4, s5, s6, s7, s8, s9, s10, s11, s12, s13⟩
                      go_simp
                      with_reducible rfl
                    rotate_left
                    · simp only [Act.put, List.setIfInBounds_toArray, List.set_cons_zero, List.set_cons_succ, i64_w, i32_w]
                      rfl
                    refine one_ (i := 2) (N := some 42) #[true, true, true, false, false] rfl rfl (by kernel_rfl) (by decide) (fun K hK => ?_)
                    refine goes_ Try.func42 (by kernel_rfl) rfl #[.agg #[.int .i64 a1_0, .string a1_1, .slice A1_2 l1_2.length c1_2, .slice A1_3 l1_3.length c1_3, .slice A1_4 l1_4.length c1_4, .slice A1_5 l1_5.length c1_5, .int .i64 a1_6]] (by rfl) rfl rfl (by (try simp only [List.map_toArray, List.map_cons, List.map_nil]); first | done | rfl | (simp only [List.length_drop, List.length_take]; rfl)) ?_
                    with_reducible refine (laws_toFeatureLine.calls kj62 a1_0 a1_1 _ _ l1_2 _ _ l1_3 _ _ l1_4 _ _ l1_5 a1_6 t235 t236 t237 t240 t243 t246 t249 _ ?side1 ?side2 ?side3 ?side4 ?side5 ?side6 ?side7 ?side8 A72.out).mono ?_
                    (case side1 => repeat (first | exact (Kd.C_below HR1_2.out HB.out) | (with_reducible refine Kd.C_alloc ?_ _) | (with_reducible refine Kd.C_drewN ?_ _) | (with_reducible refine Kd.C_drew ?_)))
                    (case side2 => exact HC1_2.out)
                    (case side3 => repeat (first | exact (Kd.C_below HR1_3.out HB.out) | (with_reducible refine Kd.C_alloc ?_ _) | (with_reducible refine Kd.C_drewN ?_ _) | (with_reducible refine Kd.C_drew ?_)))
                    (case side4 => exact HC1_3.out)
                    (case side5 => repeat (first | exact (Kd.C_below HR1_4.out HB.out) | (with_reducible refine Kd.C_alloc ?_ _) | (with_reducible refine Kd.C_drewN ?_ _) | (with_reducible refine Kd.C_drew ?_)))
                    (case side6 => exact HC1_4.out)
                    (case side7 => repeat (first | exact (Kd.C_below HR1_5.out HB.out) | (with_reducible refine Kd.C_alloc ?_ _) | (with_reducible refine Kd.C_drewN ?_ _) | (with_reducible refine Kd.C_drew ?_)))
                    (case side8 => exact HC1_5.out)
                    rintro e w76 ⟨v238, v241, v244, v247, rfl, ho0, ho1, ho2, ho3, hb⟩
                    refine ⟨_, rfl, ?_⟩
                    have n0_ := aM (Kd.R_mono (Kd.R_told (Kd.R_told (Kd.R_told (Kd.R_told (Kd.R_old (by (with_reducible repeat (first | apply rA | apply rN | apply rD)); exact HO_202002.out) hb) (Kd.R_base ho0)) (Kd.R_base ho1)) (Kd.R_base ho2)) (Kd.R_base ho3)) h1_)
                    have n1_ := aM (Kd.R_mono (Kd.R_told (Kd.R_told (Kd.R_told (Kd.R_told (Kd.R_old (by (with_reducible repeat (first | apply rA | apply rN | apply rD)); exact HO_202003.out) hb) (Kd.R_base ho0)) (Kd.R_base ho1)) (Kd.R_base ho2)) (Kd.R_base ho3)) h1_)
                    have n2_ := aM (Kd.R_mono (Kd.R_told (Kd.R_told (Kd.R_told (Kd.R_told (Kd.R_old (by (with_reducible repeat (first | apply rA | apply rN | apply rD)); exact HO_202004.out) hb) (Kd.R_base ho0)) (Kd.R_base ho1)) (Kd.R_base ho2)) (Kd.R_base ho3)) h1_)
                    have n3_ := aM (Kd.R_mono (Kd.R_told (Kd.R_told (Kd.R_told (Kd.R_told (Kd.R_old (by (with_reducible repeat (first | apply rA | apply rN | apply rD)); exact HO_202005.out) hb) (Kd.R_base ho0)) (Kd.R_base ho1)) (Kd.R_base ho2)) (Kd.R_base ho3)) h1_)
                    have n4_ := aM (Kd.R_mono (Kd.R_told (Kd.R_told (Kd.R_told (Kd.R_told (Kd.R_old (by (with_reducible repeat (first | apply rA | apply rN | apply rD)); exact HO_218002.out) hb) (Kd.R_base ho0)) (Kd.R_base ho1)) (Kd.R_base ho2)) (Kd.R_base ho3)) h1_)
                    have n5_ := aM (Kd.R_mono (Kd.R_told (Kd.R_told (Kd.R_told (Kd.R_told (Kd.R_old (by (with_reducible repeat (first | apply rA | apply rN | apply rD)); exact HO_218003.out) hb) (Kd.R_base ho0)) (Kd.R_base ho1)) (Kd.R_base ho2)) (Kd.R_base ho3)) h1_)
                    have n6_ := aM (Kd.R_mono (Kd.R_told (Kd.R_told (Kd.R_told (Kd.R_told (Kd.R_old (by (with_reducible repeat (first | apply rA | apply rN | apply rD)); exact HO_218004.out) hb) (Kd.R_base ho0)) (Kd.R_base ho1)) (Kd.R_base ho2)) (Kd.R_base ho3)) h1_)
                    have n7_ := aM (Kd.R_mono (Kd.R_told (Kd.R_told (Kd.R_told (Kd.R_told (Kd.R_old (by (with_reducible repeat (first | apply rA | apply rN | apply rD)); exact HO_218005.out) hb) (Kd.R_base ho0)) (Kd.R_base ho1)) (Kd.R_base ho2)) (Kd.R_base ho3)) h1_)
                    have n8_ := aM (Kd.R_lower (Kd.R_new' (Kd.R_new' (Kd.R_new' (Kd.R_new' (Kd.R_new' (Kd.R_new' (Kd.R_new' (Kd.R_new' ho0 (Kd.R_lt (by (with_reducible repeat (first | apply rA | apply rN | apply rD)); exact HO_202002.out))) (Kd.R_lt (by (with_reducible repeat (first | apply rA | apply rN | apply rD)); exact HO_202003.out))) (Kd.R_lt (by (with_reducible repeat (first | apply rA | apply rN | apply rD)); exact HO_202004.out))) (Kd.R_lt (by (with_reducible repeat (first | apply rA | apply rN | apply rD)); exact HO_202005.out))) (Kd.R_lt (by (with_reducible repeat (first | apply rA | apply rN | apply rD)); exact HO_218002.out))) (Kd.R_lt (by (with_reducible repeat (first | apply rA | apply rN | apply rD)); exact HO_218003.out))) (Kd.R_lt (by (with_reducible repeat (first | apply rA | apply rN | apply rD)); exact HO_218004.out))) (Kd.R_lt (by (with_reducible repeat (first | apply rA | apply rN | apply rD)); exact HO_218005.out))) (below_size (by repeat (first | (with_reducible first | exact HB.out | apply below_alloc | apply pw_below_drewN | apply below_drew1 | refine below_set ?_ GE151.out | refine below_set ?_ GE152.out | refine below_set ?_ GE201.out | refine below_set ?_ GE217.out) | exact HB.out))))
                    have n9_ := aM (Kd.R_lower (Kd.R_new' (Kd.R_new' (Kd.R_new' (Kd.R_new' (Kd.R_new' (Kd.R_new' (Kd.R_new' (Kd.R_new' ho1 (Kd.R_lt (by (with_reducible repeat (first | apply rA | apply rN | apply rD)); exact HO_202002.out))) (Kd.R_lt (by (with_reducible repeat (first | apply rA | apply rN | apply rD)); exact HO_202003.out))) (Kd.R_lt (by (with_reducible repeat (first | apply rA | apply rN | apply rD)); exact HO_202004.out))) (Kd.R_lt (by (with_reducible repeat (first | apply rA | apply rN | apply rD)); exact HO_202005.out))) (Kd.R_lt (by (with_reducible repeat (first | apply rA | apply rN | apply rD)); exact HO_218002.out))) (Kd.R_lt (by (with_reducible repeat (first | apply rA | apply rN | apply rD)); exact HO_218003.out))) (Kd.R_lt (by (with_reducible repeat (first | apply rA | apply rN | apply rD)); exact HO_218004.out))) (Kd.R_lt (by (with_reducible repeat (first | apply rA | apply rN | apply rD)); exact HO_218005.out))) (below_size (by repeat (first | (with_reducible first | exact HB.out | apply below_alloc | apply pw_below_drewN | apply below_drew1 | refine below_set ?_ GE151.out | refine below_set ?_ GE152.out | refine below_set ?_ GE201.out | refine below_set ?_ GE217.out) | exact HB.out))))
                    have n10_ := aM (Kd.R_lower (Kd.R_new' (Kd.R_new' (Kd.R_new' (Kd.R_new' (Kd.R_new' (Kd.R_new' (Kd.R_new' (Kd.R_new' ho2 (Kd.R_lt (by (with_reducible repeat (first | apply rA | apply rN | apply rD)); exact HO_202002.out))) (Kd.R_lt (by (with_reducible repeat (first | apply rA | apply rN | apply rD)); exact HO_202003.out))) (Kd.R_lt (by (with_reducible repeat (first | apply rA | apply rN | apply rD)); exact HO_202004.out))) (Kd.R_lt (by (with_reducible repeat (first | apply rA | apply rN | apply rD)); exact HO_202005.out))) (Kd.R_lt (by (with_reducible repeat (first | apply rA | apply rN | apply rD)); exact HO_218002.out))) (Kd.R_lt (by (with_reducible repeat (first | apply rA | apply rN | apply rD)); exact HO_218003.out))) (Kd.R_lt (by (with_reducible repeat (first | apply rA | apply rN | apply rD)); exact HO_218004.out))) (Kd.R_lt (by (with_reducible repeat (first | apply rA | apply rN | apply rD)); exact HO_218005.out))) (below_size (by repeat (first | (with_reducible first | exact HB.out | apply below_alloc | apply pw_below_drewN | apply below_drew1 | refine below_set ?_ GE151.out | refine below_set ?_ GE152.out | refine below_set ?_ GE201.out | refine below_set ?_ GE217.out) | exact HB.out))))
                    have n11_ := aM (Kd.R_lower (Kd.R_new' (Kd.R_new' (Kd.R_new' (Kd.R_new' (Kd.R_new' (Kd.R_new' (Kd.R_new' (Kd.R_new' ho3 (Kd.R_lt (by (with_reducible repeat (first | apply rA | apply rN | apply rD)); exact HO_202002.out))) (Kd.R_lt (by (with_reducible repeat (first | apply rA | apply rN | apply rD)); exact HO_202003.out))) (Kd.R_lt (by (with_reducible repeat (first | apply rA | apply rN | apply rD)); exact HO_202004.out))) (Kd.R_lt (by (with_reducible repeat (first | apply rA | apply rN | apply rD)); exact HO_202005.out))) (Kd.R_lt (by (with_reducible repeat (first | apply rA | apply rN | apply rD)); exact HO_218002.out))) (Kd.R_lt (by (with_reducible repeat (first | apply rA | apply rN | apply rD)); exact HO_218003.out))) (Kd.R_lt (by (with_reducible repeat (first | apply rA | apply rN | apply rD)); exact HO_218004.out))) (Kd.R_lt (by (with_reducible repeat (first | apply rA | apply rN | apply rD)); exact HO_218005.out))) (below_size (by repeat (first | (with_reducible first | exact HB.out | apply below_alloc | apply pw_below_drewN | apply below_drew1 | refine below_set ?_ GE151.out | refine below_set ?_ GE152.out | refine below_set ?_ GE201.out | refine below_set ?_ GE217.out) | exact HB.out))))
                    have n12_ := aM (blk_below (g := gb151) (o := .cells #[.int .i64 a0_0, .string a0_1, .slice A0_2 l0_2.length c0_2, .slice A0_3 l0_3.length c0_3, .slice A0_4 l0_4.length c0_4, .slice A0_5 l0_5.length c0_5, .int .i64 a0_6] 50 (0, 0)) (by (with_reducible repeat (first | refine blk_drewN ?_ _ | refine blk_drew ?_ | refine blk_alloc ?_ _)); exact BK151.out) hb)
                    have n13_ := aM (blk_below (g := gb152) (o := .cells #[.int .i64 a1_0, .string a1_1, .slice A1_2 l1_2.length c1_2, .slice A1_3 l1_3.length c1_3, .slice A1_4 l1_4.length c1_4, .slice A1_5 l1_5.length c1_5, .int .i64 a1_6] 50 (0, 0)) (by (with_reducible repeat (first | refine blk_drewN ?_ _ | refine blk_drew ?_ | refine blk_alloc ?_ _)); exact BK152.out) hb)
                    have n14_ := aM (blk_below (g := gb201) (o := .cells #[.int .i64 t186, .string t187, .slice Ao43 t188.length co43, .slice Ao44 t191.length co44, .slice Ao45 t194.length co45, .slice Ao46 t197.length co46, .int .i64 t200] 53 (0, 0)) (by (with_reducible repeat (first | refine blk_drewN ?_ _ | refine blk_drew ?_ | refine blk_alloc ?_ _)); exact BK201.out) hb)
                    have n15_ := aM (blk_below (g := gb217) (o := .cells #[.int .i64 t202, .string t203, .slice Ao54 t204.length co54, .slice Ao55 t207.length co55, .slice Ao56 t210.length co56, .slice Ao57 t213.length co57, .int .i64 t216] 53 (0, 0)) (by (with_reducible repeat (first | refine blk_drewN ?_ _ | refine blk_drew ?_ | refine blk_alloc ?_ _)); exact BK217.out) hb)
                    have n16_ := aM (below_step (by repeat (first | (with_reducible first | exact HB.out | apply below_alloc | apply pw_below_drewN | apply below_drew1 | refine below_set ?_ GE151.out | refine below_set ?_ GE152.out | refine below_set ?_ GE201.out | refine below_set ?_ GE217.out) | exact HB.out)) hb)
                    clear HO_202002
                    clear HO_202003
                    clear HO_202004
                    clear HO_202005
                    clear HO_218002
                    clear HO_218003
                    clear HO_218004
                    clear HO_218005
                    clear BK151
                    clear BK152
                    clear BK201
                    clear BK217
                    clear HB
                    have HO_202002 := n0_
                    have HO_202003 := n1_
                    have HO_202004 := n2_
                    have HO_202005 := n3_
                    have HO_218002 := n4_
                    have HO_218003 := n5_
                    have HO_218004 := n6_
                    have HO_218005 := n7_
                    have HO239 := n8_
                    have HO242 := n9_
                    have HO245 := n10_
                    have HO248 := n11_
                    have BK151 := n12_
                    have BK152 := n13_
                    have BK201 := n14_
                    have BK217 := n15_
                    have HB := n16_
                    clear n0_ n1_ n2_ n3_ n4_ n5_ n6_ n7_ n8_ n9_ n10_ n11_ n12_ n13_ n14_ n15_ n16_
                    (try clear hb)
                    (try clear hb2)
                    (try clear hk)
                    (try clear hi)
                    (try clear ho0)
                    (try clear ho1)
                    (try clear ho2)
                    (try clear ho3)
                    obtain ⟨Ao77, co77, eo77⟩ := Kd.R_slice HO239.out
                    (first | subst eo77 | (injection eo77 with f1_ f2_ f3_; have f4_ := f1_.symm; have f5_ := f3_.symm; clear f1_ f2_ f3_; subst f4_; subst f5_))
                    obtain ⟨Ao78, co78, eo78⟩ := Kd.R_slice HO242.out
                    (first | subst eo78 | (injection eo78 with f1_ f2_ f3_; have f4_ := f1_.symm; have f5_ := f3_.symm; clear f1_ f2_ f3_; subst f4_; subst f5_))
                    obtain ⟨Ao79, co79, eo79⟩ := Kd.R_slice HO245.out
                    (first | subst eo79 | (injection eo79 with f1_ f2_ f3_; have f4_ := f1_.symm; have f5_ := f3_.symm; clear f1_ f2_ f3_; subst f4_; subst f5_))
                    obtain ⟨Ao80, co80, eo80⟩ := Kd.R_slice HO248.out
                    (first | subst eo80 | (injection eo80 with f1_ f2_ f3_; have f4_ := f1_.symm; have f5_ := f3_.symm; clear f1_ f2_ f3_; subst f4_; subst f5_))
                    refine hK.out _ _ ⟨(blk_cell BK217.out 0).trans rfl, (blk_cell BK217.out 1).trans rfl, (blk_cell BK217.out 2).trans rfl, (blk_cell BK217.out 3).trans rfl, (blk_cell BK217.out 4).trans rfl, (blk_cell BK217.out 5).trans rfl, (blk_cell BK217.out 6).trans rfl, (blk_cell BK152.out 0).trans rfl, (blk_cell BK152.out 1).trans rfl, (blk_cell BK152.out 2).trans rfl, (blk_cell BK152.out 3).trans rfl, (blk_cell BK152.out 4).trans rfl, (blk_cell BK152.out 5).trans rfl, (blk_cell BK152.out 6).trans rfl⟩ (fun hHeld => ?_)
                    clear hK K
                    refine norm_ (a' := ?_) ?_ ?_
                    rotate_left
                    · show Act.put _ (some 42) _ = _
                      simp only [Act.put, List.setIfInBounds_toArray, List.set_cons_zero, List.set_cons_succ, i64_w, i32_w]
                      rfl
                    refine one_ (i := 3) (N := some 43) #[true, true, true, true, false] rfl rfl (by kernel_rfl) (by decide) (fun K hK => ?_)
                    refine goes_ Try.func44 (by kernel_rfl) rfl #[.agg #[.int .i64 t202, .string t203, .slice Ao54 t204.length co54, .slice Ao55 t207.length co55, .slice Ao56 t210.length co56, .slice Ao57 t213.length co57, .int .i64 t216], .agg #[.int .i64 t235, .string t236, .slice Ao77 t237.length co77, .slice Ao78 t240.length co78, .slice Ao79 t243.length co79, .slice Ao80 t246.length co80, .int .i64 t249]] (by rfl) rfl rfl (by (try simp only [List.map_toArray, List.map_cons, List.map_nil]); first | done | rfl | (simp only [List.length_drop, List.length_take]; rfl)) ?_
                    with_reducible refine (laws_eqFeatureLine.calls kj62 t202 t203 _ _ t204 _ _ t207 _ _ t210 _ _ t213 t216 t235 t236 _ _ t237 _ _ t240 _ _ t243 _ _ t246 t249 true _ ?side1 ?side2 ?side3 ?side4 ?side5 ?side6 ?side7 ?side8 ?side9 ?side10 ?side11 ?side12 ?side13 ?side14 ?side15 ?side16 A73.out).mono ?_
                    (case side1 => repeat (first | exact (Kd.R_reads' HO_218002.out).2.2 | (with_reducible refine Kd.C_alloc ?_ _) | (with_reducible refine Kd.C_drewN ?_ _) | (with_reducible refine Kd.C_drew ?_)))
                    (case side2 => exact (Kd.R_reads' HO_218002.out).2.1)
                    (case side3 => repeat (first | exact (Kd.R_reads' HO_218003.out).2.2 | (with_reducible refine Kd.C_alloc ?_ _) | (with_reducible refine Kd.C_drewN ?_ _) | (with_reducible refine Kd.C_drew ?_)))
                    (case side4 => exact (Kd.R_reads' HO_218003.out).2.1)
                    (case side5 => repeat (first | exact (Kd.R_reads' HO_218004.out).2.2 | (with_reducible refine Kd.C_alloc ?_ _) | (with_reducible refine Kd.C_drewN ?_ _) | (with_reducible refine Kd.C_drew ?_)))
                    (case side6 => exact (Kd.R_reads' HO_218004.out).2.1)
                    (case side7 => repeat (first | exact (Kd.R_reads' HO_218005.out).2.2 | (with_reducible refine Kd.C_alloc ?_ _) | (with_reducible refine Kd.C_drewN ?_ _) | (with_reducible refine Kd.C_drew ?_)))
                    (case side8 => exact (Kd.R_reads' HO_218005.out).2.1)
                    (case side9 => repeat (first | exact (Kd.R_reads' HO239.out).2.2 | (with_reducible refine Kd.C_alloc ?_ _) | (with_reducible refine Kd.C_drewN ?_ _) | (with_reducible refine Kd.C_drew ?_)))
                    (case side10 => exact (Kd.R_reads' HO239.out).2.1)
                    (case side11 => repeat (first | exact (Kd.R_reads' HO242.out).2.2 | (with_reducible refine Kd.C_alloc ?_ _) | (with_reducible refine Kd.C_drewN ?_ _) | (with_reducible refine Kd.C_drew ?_)))
                    (case side12 => exact (Kd.R_reads' HO242.out).2.1)
                    (case side13 => repeat (first | exact (Kd.R_reads' HO245.out).2.2 | (with_reducible refine Kd.C_alloc ?_ _) | (with_reducible refine Kd.C_drewN ?_ _) | (with_reducible refine Kd.C_drew ?_)))
                    (case side14 => exact (Kd.R_reads' HO245.out).2.1)
                    (case side15 => repeat (first | exact (Kd.R_reads' HO248.out).2.2 | (with_reducible refine Kd.C_alloc ?_ _) | (with_reducible refine Kd.C_drewN ?_ _) | (with_reducible refine Kd.C_drew ?_)))
                    (case side16 => exact (Kd.R_reads' HO248.out).2.1)
                    rintro e w81 ⟨rfl, hb⟩
                    refine ⟨_, rfl, ?_⟩
                    have n0_ := aM (Kd.R_below (by (with_reducible repeat (first | apply rA | apply rN | apply rD)); exact HO_202002.out) hb)
                    have n1_ := aM (Kd.R_below (by (with_reducible repeat (first | apply rA | apply rN | apply rD)); exact HO_202003.out) hb)
                    have n2_ := aM (Kd.R_below (by (with_reducible repeat (first | apply rA | apply rN | apply rD)); exact HO_202004.out) hb)
                    have n3_ := aM (Kd.R_below (by (with_reducible repeat (first | apply rA | apply rN | apply rD)); exact HO_202005.out) hb)
                    have n4_ := aM (Kd.R_below (by (with_reducible repeat (first | apply rA | apply rN | apply rD)); exact HO_218002.out) hb)
                    have n5_ := aM (Kd.R_below (by (with_reducible repeat (first | apply rA | apply rN | apply rD)); exact HO_218003.out) hb)
                    have n6_ := aM (Kd.R_below (by (with_reducible repeat (first | apply rA | apply rN | apply rD)); exact HO_218004.out) hb)
                    have n7_ := aM (Kd.R_below (by (with_reducible repeat (first | apply rA | apply rN | apply rD)); exact HO_218005.out) hb)
                    have n8_ := aM (Kd.R_below (by (with_reducible repeat (first | apply rA | apply rN | apply rD)); exact HO239.out) hb)
                    have n9_ := aM (Kd.R_below (by (with_reducible repeat (first | apply rA | apply rN | apply rD)); exact HO242.out) hb)
                    have n10_ := aM (Kd.R_below (by (with_reducible repeat (first | apply rA | apply rN | apply rD)); exact HO245.out) hb)
                    have n11_ := aM (Kd.R_below (by (with_reducible repeat (first | apply rA | apply rN | apply rD)); exact HO248.out) hb)
                    have n12_ := aM (blk_below (g := gb151) (o := .cells #[.int .i64 a0_0, .string a0_1, .slice A0_2 l0_2.length c0_2, .slice A0_3 l0_3.length c0_3, .slice A0_4 l0_4.length c0_4, .slice A0_5 l0_5.length c0_5, .int .i64 a0_6] 50 (0, 0)) (by (with_reducible repeat (first | refine blk_drewN ?_ _ | refine blk_drew ?_ | refine blk_alloc ?_ _)); exact BK151.out) hb)
                    have n13_ := aM (blk_below (g := gb152) (o := .cells #[.int .i64 a1_0, .string a1_1, .slice A1_2 l1_2.length c1_2, .slice A1_3 l1_3.length c1_3, .slice A1_4 l1_4.length c1_4, .slice A1_5 l1_5.length c1_5, .int .i64 a1_6] 50 (0, 0)) (by (with_reducible repeat (first | refine blk_drewN ?_ _ | refine blk_drew ?_ | refine blk_alloc ?_ _)); exact BK152.out) hb)
                    have n14_ := aM (blk_below (g := gb201) (o := .cells #[.int .i64 t186, .string t187, .slice Ao43 t188.length co43, .slice Ao44 t191.length co44, .slice Ao45 t194.length co45, .slice Ao46 t197.length co46, .int .i64 t200] 53 (0, 0)) (by (with_reducible repeat (first | refine blk_drewN ?_ _ | refine blk_drew ?_ | refine blk_alloc ?_ _)); exact BK201.out) hb)
                    have n15_ := aM (blk_below (g := gb217) (o := .cells #[.int .i64 t202, .string t203, .slice Ao54 t204.length co54, .slice Ao55 t207.length co55, .slice Ao56 t210.length co56, .slice Ao57 t213.length co57, .int .i64 t216] 53 (0, 0)) (by (with_reducible repeat (first | refine blk_drewN ?_ _ | refine blk_drew ?_ | refine blk_alloc ?_ _)); exact BK217.out) hb)
                    have n16_ := aM (below_step (by repeat (first | (with_reducible first | exact HB.out | apply below_alloc | apply pw_below_drewN | apply below_drew1 | refine below_set ?_ GE151.out | refine below_set ?_ GE152.out | refine below_set ?_ GE201.out | refine below_set ?_ GE217.out) | exact HB.out)) hb)
                    clear HO_202002
                    clear HO_202003
                    clear HO_202004
                    clear HO_202005
                    clear HO_218002
                    clear HO_218003
                    clear HO_218004
                    clear HO_218005
                    clear HO239
                    clear HO242
                    clear HO245
                    clear HO248
                    clear BK151
                    clear BK152
                    clear BK201
                    clear BK217
                    clear HB
                    have HO_202002 := n0_
                    have HO_202003 := n1_
                    have HO_202004 := n2_
                    have HO_202005 := n3_
                    have HO_218002 := n4_
                    have HO_218003 := n5_
                    have HO_218004 := n6_
                    have HO_218005 := n7_
                    have HO239 := n8_
                    have HO242 := n9_
                    have HO245 := n10_
                    have HO248 := n11_
                    have BK151 := n12_
                    have BK152 := n13_
                    have BK201 := n14_
                    have BK217 := n15_
                    have HB := n16_
                    clear n0_ n1_ n2_ n3_ n4_ n5_ n6_ n7_ n8_ n9_ n10_ n11_ n12_ n13_ n14_ n15_ n16_
                    (try clear hb)
                    (try clear hb2)
                    (try clear hk)
                    (try clear hi)
                    refine hK.out _ _ ⟨(blk_cell BK217.out 0).trans rfl, (blk_cell BK217.out 1).trans rfl, (blk_cell BK217.out 2).trans rfl, (blk_cell BK217.out 3).trans rfl, (blk_cell BK217.out 4).trans rfl, (blk_cell BK217.out 5).trans rfl, (blk_cell BK217.out 6).trans rfl, (blk_cell BK152.out 0).trans rfl, (blk_cell BK152.out 1).trans rfl, (blk_cell BK152.out 2).trans rfl, (blk_cell BK152.out 3).trans rfl, (blk_cell BK152.out 4).trans rfl, (blk_cell BK152.out 5).trans rfl, (blk_cell BK152.out 6).trans rfl⟩ (fun hHeld => ?_)
                    clear hK K
                    refine norm_ (a' := ?_) ?_ ?_
                    rotate_left
                    · show Act.put _ (some 43) _ = _
                      simp only [Act.put, List.setIfInBounds_toArray, List.set_cons_zero, List.set_cons_succ, i64_w, i32_w]
                      rfl
                    refine pure_ (i := 4) (N := some 44) (v := ?_) (a' := ?_) #[true, true, true, true, true] rfl rfl (by kernel_rfl) (fun _ _ _ h => h) (Or.inl ⟨by rfl, ?_⟩) ?_ ?_
                    rotate_left
                    · intro w'
                      go_simp
                      with_reducible rfl
                    rotate_left
                    · simp only [Act.put, List.setIfInBounds_toArray, List.set_cons_zero, List.set_cons_succ, i64_w, i32_w]
                      rfl
                    refine done_ (by kernel_rfl) ?_
                    try go_wp2
                    go_ret
                    exact ⟨by first | rfl | (simp [errW_none, errW_some] <;> rfl) | (simp [*, errW_none, errW_some] <;> rfl), by repeat (first | (with_reducible first | exact HB.out | apply below_alloc | apply pw_below_drewN | apply below_drew1 | refine below_set ?_ GE151.out | refine below_set ?_ GE152.out | refine below_set ?_ GE201.out | refine below_set ?_ GE217.out) | exact HB.out)⟩
                  · replace c74 := Bool.eq_false_iff.mpr c74
                    subst c74
                    have H1 : (some false) = some r := by rw [if_neg (show ¬ (false = true) by decide)] at H; exact H
                    clear H
                    have H := H1
                    clear H1
                    obtain rfl := Option.some.inj H
                    try go_wp2
                    have n0_ := aM (Kd.R_drew HO_202002.out)
                    have n1_ := aM (Kd.R_drew HO_202003.out)
                    have n2_ := aM (Kd.R_drew HO_202004.out)
                    have n3_ := aM (Kd.R_drew HO_202005.out)
                    have n4_ := aM (Kd.R_drew HO_218002.out)
                    have n5_ := aM (Kd.R_drew HO_218003.out)
                    have n6_ := aM (Kd.R_drew HO_218004.out)
                    have n7_ := aM (Kd.R_drew HO_218005.out)
                    have n8_ := aM (blk_drew BK151.out)
                    have n9_ := aM (blk_drew BK152.out)
                    have n10_ := aM (blk_drew BK201.out)
                    have n11_ := aM (blk_drew BK217.out)
                    have n12_ := aM (below_drew1 HB.out)
                    clear HO_202002
                    clear HO_202003
                    clear HO_202004
                    clear HO_202005
                    clear HO_218002
                    clear HO_218003
                    clear HO_218004
                    clear HO_218005
                    clear BK151
                    clear BK152
                    clear BK201
                    clear BK217
                    clear HB
                    have HO_202002 := n0_
                    have HO_202003 := n1_
                    have HO_202004 := n2_
                    have HO_202005 := n3_
                    have HO_218002 := n4_
                    have HO_218003 := n5_
                    have HO_218004 := n6_
                    have HO_218005 := n7_
                    have BK151 := n8_
                    have BK152 := n9_
                    have BK201 := n10_
                    have BK217 := n11_
                    have HB := n12_
                    clear n0_ n1_ n2_ n3_ n4_ n5_ n6_ n7_ n8_ n9_ n10_ n11_ n12_
                    refine start_ (n := 5) (S := fun w' => w'.cell? ⟨gb217, 0, none⟩ = some (.int .i64 t202) ∧ w'.cell? ⟨gb217, 1, none⟩ = some (.string t203) ∧ w'.cell? ⟨gb217, 2, none⟩ = some (.slice Ao54 t204.length co54) ∧ w'.cell? ⟨gb217, 3, none⟩ = some (.slice Ao55 t207.length co55) ∧ w'.cell? ⟨gb217, 4, none⟩ = some (.slice Ao56 t210.length co56) ∧ w'.cell? ⟨gb217, 5, none⟩ = some (.slice Ao57 t213.length co57) ∧ w'.cell? ⟨gb217, 6, none⟩ = some (.int .i64 t216) ∧ w'.cell? ⟨gb152, 0, none⟩ = some (.int .i64 a1_0) ∧ w'.cell? ⟨gb152, 1, none⟩ = some (.string a1_1) ∧ w'.cell? ⟨gb152, 2, none⟩ = some (.slice A1_2 l1_2.length c1_2) ∧ w'.cell? ⟨gb152, 3, none⟩ = some (.slice A1_3 l1_3.length c1_3) ∧ w'.cell? ⟨gb152, 4, none⟩ = some (.slice A1_4 l1_4.length c1_4) ∧ w'.cell? ⟨gb152, 5, none⟩ = some (.slice A1_5 l1_5.length c1_5) ∧ w'.cell? ⟨gb152, 6, none⟩ = some (.int .i64 a1_6)) (ds := []) #[false, false, false, false, false] (by kernel_rfl) rfl rfl ⟨(blk_cell BK217.out 0).trans rfl, (blk_cell BK217.out 1).trans rfl, (blk_cell BK217.out 2).trans rfl, (blk_cell BK217.out 3).trans rfl, (blk_cell BK217.out 4).trans rfl, (blk_cell BK217.out 5).trans rfl, (blk_cell BK217.out 6).trans rfl, (blk_cell BK152.out 0).trans rfl, (blk_cell BK152.out 1).trans rfl, (blk_cell BK152.out 2).trans rfl, (blk_cell BK152.out 3).trans rfl, (blk_cell BK152.out 4).trans rfl, (blk_cell BK152.out 5).trans rfl, (blk_cell BK152.out 6).trans rfl⟩ (fun hHeld => ?_)
                    generalize wc.drew = w82 at HO_202002 HO_202003 HO_202004 HO_202005 HO_218002 HO_218003 HO_218004 HO_218005 BK151 BK152 BK201 BK217 HB hHeld ⊢
                    refine take_ (i := 0) (N := some 40) (v := ?_) (a' := ?_) #[true, false, false, false, false] rfl rfl (by kernel_rfl) (fun _ _ _ h => h) (Or.inl ⟨by rfl, ?_⟩) hHeld ?_ ?_
                    rotate_left
                    · rintro w' ⟨s0, s1, s2, s3, s4, s5, s6, s7, s8, s9, s10, s11, s12, s13⟩
                      go_simp
                      with_reducible rfl
                    rotate_left
                    · simp only [Act.put, List.setIfInBounds_toArray, List.set_cons_zero, List.set_cons_succ, i64_w, i32_w]
                      rfl
                    refine take_ (i := 1) (N := some 41) (v := ?_) (a' := ?_) #[true, true, false, false, false] rfl rfl (by kernel_rfl) (fun _ _ _ h => h) (Or.inl ⟨by rfl, ?_⟩) hHeld ?_ ?_
                    rotate_left
                    · rintro w' ⟨s0, s1, s2, s3, s4, s5, s6, s7, s8, s9, s10, s11, s12, s13⟩
                      go_simp
                      with_reducible rfl
                    rotate_left
                    · simp only [Act.put, List.setIfInBounds_toArray, List.set_cons_zero, List.set_cons_succ, i64_w, i32_w]
                      rfl
                    refine one_ (i := 2) (N := some 42) #[true, true, true, false, false] rfl rfl (by kernel_rfl) (by decide) (fun K hK => ?_)
                    refine goes_ Try.func42 (by kernel_rfl) rfl #[.agg #[.int .i64 a1_0, .string a1_1, .slice A1_2 l1_2.length c1_2, .slice A1_3 l1_3.length c1_3, .slice A1_4 l1_4.length c1_4, .slice A1_5 l1_5.length c1_5, .int .i64 a1_6]] (by rfl) rfl rfl (by (try simp only [List.map_toArray, List.map_cons, List.map_nil]); first | done | rfl | (simp only [List.length_drop, List.length_take]; rfl)) ?_
                    with_reducible refine (laws_toFeatureLine.calls kj62 a1_0 a1_1 _ _ l1_2 _ _ l1_3 _ _ l1_4 _ _ l1_5 a1_6 t235 t236 t237 t240 t243 t246 t249 _ ?side1 ?side2 ?side3 ?side4 ?side5 ?side6 ?side7 ?side8 A72.out).mono ?_
                    (case side1 => repeat (first | exact (Kd.C_below HR1_2.out HB.out) | (with_reducible refine Kd.C_alloc ?_ _) | (with_reducible refine Kd.C_drewN ?_ _) | (with_reducible refine Kd.C_drew ?_)))
                    (case side2 => exact HC1_2.out)
                    (case side3 => repeat (first | exact (Kd.C_below HR1_3.out HB.out) | (with_reducible refine Kd.C_alloc ?_ _) | (with_reducible refine Kd.C_drewN ?_ _) | (with_reducible refine Kd.C_drew ?_)))
                    (case side4 => exact HC1_3.out)
                    (case side5 => repeat (first | exact (Kd.C_below HR1_4.out HB.out) | (with_reducible refine Kd.C_alloc ?_ _) | (with_reducible refine Kd.C_drewN ?_ _) | (with_reducible refine Kd.C_drew ?_)))
                    (case side6 => exact HC1_4.out)
                    (case side7 => repeat (first | exact (Kd.C_below HR1_5.out HB.out) | (with_reducible refine Kd.C_alloc ?_ _) | (with_reducible refine Kd.C_drewN ?_ _) | (with_reducible refine Kd.C_drew ?_)))
                    (case side8 => exact HC1_5.out)
                    rintro e w83 ⟨v238, v241, v244, v247, rfl, ho0, ho1, ho2, ho3, hb⟩
                    refine ⟨_, rfl, ?_⟩
                    have n0_ := aM (Kd.R_mono (Kd.R_told (Kd.R_told (Kd.R_told (Kd.R_told (Kd.R_old (by (with_reducible repeat (first | apply rA | apply rN | apply rD)); exact HO_202002.out) hb) (Kd.R_base ho0)) (Kd.R_base ho1)) (Kd.R_base ho2)) (Kd.R_base ho3)) h1_)
                    have n1_ := aM (Kd.R_mono (Kd.R_told (Kd.R_told (Kd.R_told (Kd.R_told (Kd.R_old (by (with_reducible repeat (first | apply rA | apply rN | apply rD)); exact HO_202003.out) hb) (Kd.R_base ho0)) (Kd.R_base ho1)) (Kd.R_base ho2)) (Kd.R_base ho3)) h1_)
                    have n2_ := aM (Kd.R_mono (Kd.R_told (Kd.R_told (Kd.R_told (Kd.R_told (Kd.R_old (by (with_reducible repeat (first | apply rA | apply rN | apply rD)); exact HO_202004.out) hb) (Kd.R_base ho0)) (Kd.R_base ho1)) (Kd.R_base ho2)) (Kd.R_base ho3)) h1_)
                    have n3_ := aM (Kd.R_mono (Kd.R_told (Kd.R_told (Kd.R_told (Kd.R_told (Kd.R_old (by (with_reducible repeat (first | apply rA | apply rN | apply rD)); exact HO_202005.out) hb) (Kd.R_base ho0)) (Kd.R_base ho1)) (Kd.R_base ho2)) (Kd.R_base ho3)) h1_)
                    have n4_ := aM (Kd.R_mono (Kd.R_told (Kd.R_told (Kd.R_told (Kd.R_told (Kd.R_old (by (with_reducible repeat (first | apply rA | apply rN | apply rD)); exact HO_218002.out) hb) (Kd.R_base ho0)) (Kd.R_base ho1)) (Kd.R_base ho2)) (Kd.R_base ho3)) h1_)
                    have n5_ := aM (Kd.R_mono (Kd.R_told (Kd.R_told (Kd.R_told (Kd.R_told (Kd.R_old (by (with_reducible repeat (first | apply rA | apply rN | apply rD)); exact HO_218003.out) hb) (Kd.R_base ho0)) (Kd.R_base ho1)) (Kd.R_base ho2)) (Kd.R_base ho3)) h1_)
                    have n6_ := aM (Kd.R_mono (Kd.R_told (Kd.R_told (Kd.R_told (Kd.R_told (Kd.R_old (by (with_reducible repeat (first | apply rA | apply rN | apply rD)); exact HO_218004.out) hb) (Kd.R_base ho0)) (Kd.R_base ho1)) (Kd.R_base ho2)) (Kd.R_base ho3)) h1_)
                    have n7_ := aM (Kd.R_mono (Kd.R_told (Kd.R_told (Kd.R_told (Kd.R_told (Kd.R_old (by (with_reducible repeat (first | apply rA | apply rN | apply rD)); exact HO_218005.out) hb) (Kd.R_base ho0)) (Kd.R_base ho1)) (Kd.R_base ho2)) (Kd.R_base ho3)) h1_)
                    have n8_ := aM (Kd.R_lower (Kd.R_new' (Kd.R_new' (Kd.R_new' (Kd.R_new' (Kd.R_new' (Kd.R_new' (Kd.R_new' (Kd.R_new' ho0 (Kd.R_lt (by (with_reducible repeat (first | apply rA | apply rN | apply rD)); exact HO_202002.out))) (Kd.R_lt (by (with_reducible repeat (first | apply rA | apply rN | apply rD)); exact HO_202003.out))) (Kd.R_lt (by (with_reducible repeat (first | apply rA | apply rN | apply rD)); exact HO_202004.out))) (Kd.R_lt (by (with_reducible repeat (first | apply rA | apply rN | apply rD)); exact HO_202005.out))) (Kd.R_lt (by (with_reducible repeat (first | apply rA | apply rN | apply rD)); exact HO_218002.out))) (Kd.R_lt (by (with_reducible repeat (first | apply rA | apply rN | apply rD)); exact HO_218003.out))) (Kd.R_lt (by (with_reducible repeat (first | apply rA | apply rN | apply rD)); exact HO_218004.out))) (Kd.R_lt (by (with_reducible repeat (first | apply rA | apply rN | apply rD)); exact HO_218005.out))) (below_size (by repeat (first | (with_reducible first | exact HB.out | apply below_alloc | apply pw_below_drewN | apply below_drew1 | refine below_set ?_ GE151.out | refine below_set ?_ GE152.out | refine below_set ?_ GE201.out | refine below_set ?_ GE217.out) | exact HB.out))))
                    have n9_ := aM (Kd.R_lower (Kd.R_new' (Kd.R_new' (Kd.R_new' (Kd.R_new' (Kd.R_new' (Kd.R_new' (Kd.R_new' (Kd.R_new' ho1 (Kd.R_lt (by (with_reducible repeat (first | apply rA | apply rN | apply rD)); exact HO_202002.out))) (Kd.R_lt (by (with_reducible repeat (first | apply rA | apply rN | apply rD)); exact HO_202003.out))) (Kd.R_lt (by (with_reducible repeat (first | apply rA | apply rN | apply rD)); exact HO_202004.out))) (Kd.R_lt (by (with_reducible repeat (first | apply rA | apply rN | apply rD)); exact HO_202005.out))) (Kd.R_lt (by (with_reducible repeat (first | apply rA | apply rN | apply rD)); exact HO_218002.out))) (Kd.R_lt (by (with_reducible repeat (first | apply rA | apply rN | apply rD)); exact HO_218003.out))) (Kd.R_lt (by (with_reducible repeat (first | apply rA | apply rN | apply rD)); exact HO_218004.out))) (Kd.R_lt (by (with_reducible repeat (first | apply rA | apply rN | apply rD)); exact HO_218005.out))) (below_size (by repeat (first | (with_reducible first | exact HB.out | apply below_alloc | apply pw_below_drewN | apply below_drew1 | refine below_set ?_ GE151.out | refine below_set ?_ GE152.out | refine below_set ?_ GE201.out | refine below_set ?_ GE217.out) | exact HB.out))))
                    have n10_ := aM (Kd.R_lower (Kd.R_new' (Kd.R_new' (Kd.R_new' (Kd.R_new' (Kd.R_new' (Kd.R_new' (Kd.R_new' (Kd.R_new' ho2 (Kd.R_lt (by (with_reducible repeat (first | apply rA | apply rN | apply rD)); exact HO_202002.out))) (Kd.R_lt (by (with_reducible repeat (first | apply rA | apply rN | apply rD)); exact HO_202003.out))) (Kd.R_lt (by (with_reducible repeat (first | apply rA | apply rN | apply rD)); exact HO_202004.out))) (Kd.R_lt (by (with_reducible repeat (first | apply rA | apply rN | apply rD)); exact HO_202005.out))) (Kd.R_lt (by (with_reducible repeat (first | apply rA | apply rN | apply rD)); exact HO_218002.out))) (Kd.R_lt (by (with_reducible repeat (first | apply rA | apply rN | apply rD)); exact HO_218003.out))) (Kd.R_lt (by (with_reducible repeat (first | apply rA | apply rN | apply rD)); exact HO_218004.out))) (Kd.R_lt (by (with_reducible repeat (first | apply rA | apply rN | apply rD)); exact HO_218005.out))) (below_size (by repeat (first | (with_reducible first | exact HB.out | apply below_alloc | apply pw_below_drewN | apply below_drew1 | refine below_set ?_ GE151.out | refine below_set ?_ GE152.out | refine below_set ?_ GE201.out | refine below_set ?_ GE217.out) | exact HB.out))))
                    have n11_ := aM (Kd.R_lower (Kd.R_new' (Kd.R_new' (Kd.R_new' (Kd.R_new' (Kd.R_new' (Kd.R_new' (Kd.R_new' (Kd.R_new' ho3 (Kd.R_lt (by (with_reducible repeat (first | apply rA | apply rN | apply rD)); exact HO_202002.out))) (Kd.R_lt (by (with_reducible repeat (first | apply rA | apply rN | apply rD)); exact HO_202003.out))) (Kd.R_lt (by (with_reducible repeat (first | apply rA | apply rN | apply rD)); exact HO_202004.out))) (Kd.R_lt (by (with_reducible repeat (first | apply rA | apply rN | apply rD)); exact HO_202005.out))) (Kd.R_lt (by (with_reducible repeat (first | apply rA | apply rN | apply rD)); exact HO_218002.out))) (Kd.R_lt (by (with_reducible repeat (first | apply rA | apply rN | apply rD)); exact HO_218003.out))) (Kd.R_lt (by (with_reducible repeat (first | apply rA | apply rN | apply rD)); exact HO_218004.out))) (Kd.R_lt (by (with_reducible repeat (first | apply rA | apply rN | apply rD)); exact HO_218005.out))) (below_size (by repeat (first | (with_reducible first | exact HB.out | apply below_alloc | apply pw_below_drewN | apply below_drew1 | refine below_set ?_ GE151.out | refine below_set ?_ GE152.out | refine below_set ?_ GE201.out | refine below_set ?_ GE217.out) | exact HB.out))))
                    have n12_ := aM (blk_below (g := gb151) (o := .cells #[.int .i64 a0_0, .string a0_1, .slice A0_2 l0_2.length c0_2, .slice A0_3 l0_3.length c0_3, .slice A0_4 l0_4.length c0_4, .slice A0_5 l0_5.length c0_5, .int .i64 a0_6] 50 (0, 0)) (by (with_reducible repeat (first | refine blk_drewN ?_ _ | refine blk_drew ?_ | refine blk_alloc ?_ _)); exact BK151.out) hb)
                    have n13_ := aM (blk_below (g := gb152) (o := .cells #[.int .i64 a1_0, .string a1_1, .slice A1_2 l1_2.length c1_2, .slice A1_3 l1_3.length c1_3, .slice A1_4 l1_4.length c1_4, .slice A1_5 l1_5.length c1_5, .int .i64 a1_6] 50 (0, 0)) (by (with_reducible repeat (first | refine blk_drewN ?_ _ | refine blk_drew ?_ | refine blk_alloc ?_ _)); exact BK152.out) hb)
                    have n14_ := aM (blk_below (g := gb201) (o := .cells #[.int .i64 t186, .string t187, .slice Ao43 t188.length co43, .slice Ao44 t191.length co44, .slice Ao45 t194.length co45, .slice Ao46 t197.length co46, .int .i64 t200] 53 (0, 0)) (by (with_reducible repeat (first | refine blk_drewN ?_ _ | refine blk_drew ?_ | refine blk_alloc ?_ _)); exact BK201.out) hb)
                    have n15_ := aM (blk_below (g := gb217) (o := .cells #[.int .i64 t202, .string t203, .slice Ao54 t204.length co54, .slice Ao55 t207.length co55, .slice Ao56 t210.length co56, .slice Ao57 t213.length co57, .int .i64 t216] 53 (0, 0)) (by (with_reducible repeat (first | refine blk_drewN ?_ _ | refine blk_drew ?_ | refine blk_alloc ?_ _)); exact BK217.out) hb)
                    have n16_ := aM (below_step (by repeat (first | (with_reducible first | exact HB.out | apply below_alloc | apply pw_below_drewN | apply below_drew1 | refine below_set ?_ GE151.out | refine below_set ?_ GE152.out | refine below_set ?_ GE201.out | refine below_set ?_ GE217.out) | exact HB.out)) hb)
                    clear HO_202002
                    clear HO_202003
                    clear HO_202004
                    clear HO_202005
                    clear HO_218002
                    clear HO_218003
                    clear HO_218004
                    clear HO_218005
                    clear BK151
                    clear BK152
                    clear BK201
                    clear BK217
                    clear HB
                    have HO_202002 := n0_
                    have HO_202003 := n1_
                    have HO_202004 := n2_
                    have HO_202005 := n3_
                    have HO_218002 := n4_
                    have HO_218003 := n5_
                    have HO_218004 := n6_
                    have HO_218005 := n7_
                    have HO239 := n8_
                    have HO242 := n9_
                    have HO245 := n10_
                    have HO248 := n11_
                    have BK151 := n12_
                    have BK152 := n13_
                    have BK201 := n14_
                    have BK217 := n15_
                    have HB := n16_
                    clear n0_ n1_ n2_ n3_ n4_ n5_ n6_ n7_ n8_ n9_ n10_ n11_ n12_ n13_ n14_ n15_ n16_
                    (try clear hb)
                    (try clear hb2)
                    (try clear hk)
                    (try clear hi)
                    (try clear ho0)
                    (try clear ho1)
                    (try clear ho2)
                    (try clear ho3)
                    obtain ⟨Ao84, co84, eo84⟩ := Kd.R_slice HO239.out
                    (first | subst eo84 | (injection eo84 with f1_ f2_ f3_; have f4_ := f1_.symm; have f5_ := f3_.symm; clear f1_ f2_ f3_; subst f4_; subst f5_))
                    obtain ⟨Ao85, co85, eo85⟩ := Kd.R_slice HO242.out
                    (first | subst eo85 | (injection eo85 with f1_ f2_ f3_; have f4_ := f1_.symm; have f5_ := f3_.symm; clear f1_ f2_ f3_; subst f4_; subst f5_))
                    obtain ⟨Ao86, co86, eo86⟩ := Kd.R_slice HO245.out
                    (first | subst eo86 | (injection eo86 with f1_ f2_ f3_; have f4_ := f1_.symm; have f5_ := f3_.symm; clear f1_ f2_ f3_; subst f4_; subst f5_))
                    obtain ⟨Ao87, co87, eo87⟩ := Kd.R_slice HO248.out
                    (first | subst eo87 | (injection eo87 with f1_ f2_ f3_; have f4_ := f1_.symm; have f5_ := f3_.symm; clear f1_ f2_ f3_; subst f4_; subst f5_))
                    refine hK.out _ _ ⟨(blk_cell BK217.out 0).trans rfl, (blk_cell BK217.out 1).trans rfl, (blk_cell BK217.out 2).trans rfl, (blk_cell BK217.out 3).trans rfl, (blk_cell BK217.out 4).trans rfl, (blk_cell BK217.out 5).trans rfl, (blk_cell BK217.out 6).trans rfl, (blk_cell BK152.out 0).trans rfl, (blk_cell BK152.out 1).trans rfl, (blk_cell BK152.out 2).trans rfl, (blk_cell BK152.out 3).trans rfl, (blk_cell BK152.out 4).trans rfl, (blk_cell BK152.out 5).trans rfl, (blk_cell BK152.out 6).trans rfl⟩ (fun hHeld => ?_)
                    clear hK K
                    refine norm_ (a' := ?_) ?_ ?_
                    rotate_left
                    · show Act.put _ (some 42) _ = _
                      simp only [Act.put, List.setIfInBounds_toArray, List.set_cons_zero, List.set_cons_succ, i64_w, i32_w]
                      rfl
                    refine one_ (i := 3) (N := some 43) #[true, true, true, true, false] rfl rfl (by kernel_rfl) (by decide) (fun K hK => ?_)
                    refine goes_ Try.func44 (by kernel_rfl) rfl #[.agg #[.int .i64 t202, .string t203, .slice Ao54 t204.length co54, .slice Ao55 t207.length co55, .slice Ao56 t210.length co56, .slice Ao57 t213.length co57, .int .i64 t216], .agg #[.int .i64 t235, .string t236, .slice Ao84 t237.length co84, .slice Ao85 t240.length co85, .slice Ao86 t243.length co86, .slice Ao87 t246.length co87, .int .i64 t249]] (by rfl) rfl rfl (by (try simp only [List.map_toArray, List.map_cons, List.map_nil]); first | done | rfl | (simp only [List.length_drop, List.length_take]; rfl)) ?_
                    with_reducible refine (laws_eqFeatureLine.calls kj62 t202 t203 _ _ t204 _ _ t207 _ _ t210 _ _ t213 t216 t235 t236 _ _ t237 _ _ t240 _ _ t243 _ _ t246 t249 false _ ?side1 ?side2 ?side3 ?side4 ?side5 ?side6 ?side7 ?side8 ?side9 ?side10 ?side11 ?side12 ?side13 ?side14 ?side15 ?side16 A73.out).mono ?_
                    (case side1 => repeat (first | exact (Kd.R_reads' HO_218002.out).2.2 | (with_reducible refine Kd.C_alloc ?_ _) | (with_reducible refine Kd.C_drewN ?_ _) | (with_reducible refine Kd.C_drew ?_)))
                    (case side2 => exact (Kd.R_reads' HO_218002.out).2.1)
                    (case side3 => repeat (first | exact (Kd.R_reads' HO_218003.out).2.2 | (with_reducible refine Kd.C_alloc ?_ _) | (with_reducible refine Kd.C_drewN ?_ _) | (with_reducible refine Kd.C_drew ?_)))
                    (case side4 => exact (Kd.R_reads' HO_218003.out).2.1)
                    (case side5 => repeat (first | exact (Kd.R_reads' HO_218004.out).2.2 | (with_reducible refine Kd.C_alloc ?_ _) | (with_reducible refine Kd.C_drewN ?_ _) | (with_reducible refine Kd.C_drew ?_)))
                    (case side6 => exact (Kd.R_reads' HO_218004.out).2.1)
                    (case side7 => repeat (first | exact (Kd.R_reads' HO_218005.out).2.2 | (with_reducible refine Kd.C_alloc ?_ _) | (with_reducible refine Kd.C_drewN ?_ _) | (with_reducible refine Kd.C_drew ?_)))
                    (case side8 => exact (Kd.R_reads' HO_218005.out).2.1)
                    (case side9 => repeat (first | exact (Kd.R_reads' HO239.out).2.2 | (with_reducible refine Kd.C_alloc ?_ _) | (with_reducible refine Kd.C_drewN ?_ _) | (with_reducible refine Kd.C_drew ?_)))
                    (case side10 => exact (Kd.R_reads' HO239.out).2.1)
                    (case side11 => repeat (first | exact (Kd.R_reads' HO242.out).2.2 | (with_reducible refine Kd.C_alloc ?_ _) | (with_reducible refine Kd.C_drewN ?_ _) | (with_reducible refine Kd.C_drew ?_)))
                    (case side12 => exact (Kd.R_reads' HO242.out).2.1)
                    (case side13 => repeat (first | exact (Kd.R_reads' HO245.out).2.2 | (with_reducible refine Kd.C_alloc ?_ _) | (with_reducible refine Kd.C_drewN ?_ _) | (with_reducible refine Kd.C_drew ?_)))
                    (case side14 => exact (Kd.R_reads' HO245.out).2.1)
                    (case side15 => repeat (first | exact (Kd.R_reads' HO248.out).2.2 | (with_reducible refine Kd.C_alloc ?_ _) | (with_reducible refine Kd.C_drewN ?_ _) | (with_reducible refine Kd.C_drew ?_)))
                    (case side16 => exact (Kd.R_reads' HO248.out).2.1)
                    rintro e w88 ⟨rfl, hb⟩
                    refine ⟨_, rfl, ?_⟩
                    have n0_ := aM (Kd.R_below (by (with_reducible repeat (first | apply rA | apply rN | apply rD)); exact HO_202002.out) hb)
                    have n1_ := aM (Kd.R_below (by (with_reducible repeat (first | apply rA | apply rN | apply rD)); exact HO_202003.out) hb)
                    have n2_ := aM (Kd.R_below (by (with_reducible repeat (first | apply rA | apply rN | apply rD)); exact HO_202004.out) hb)
                    have n3_ := aM (Kd.R_below (by (with_reducible repeat (first | apply rA | apply rN | apply rD)); exact HO_202005.out) hb)
                    have n4_ := aM (Kd.R_below (by (with_reducible repeat (first | apply rA | apply rN | apply rD)); exact HO_218002.out) hb)
                    have n5_ := aM (Kd.R_below (by (with_reducible repeat (first | apply rA | apply rN | apply rD)); exact HO_218003.out) hb)
                    have n6_ := aM (Kd.R_below (by (with_reducible repeat (first | apply rA | apply rN | apply rD)); exact HO_218004.out) hb)
                    have n7_ := aM (Kd.R_below (by (with_reducible repeat (first | apply rA | apply rN | apply rD)); exact HO_218005.out) hb)
                    have n8_ := aM (Kd.R_below (by (with_reducible repeat (first | apply rA | apply rN | apply rD)); exact HO239.out) hb)
                    have n9_ := aM (Kd.R_below (by (with_reducible repeat (first | apply rA | apply rN | apply rD)); exact HO242.out) hb)
                    have n10_ := aM (Kd.R_below (by (with_reducible repeat (first | apply rA | apply rN | apply rD)); exact HO245.out) hb)
                    have n11_ := aM (Kd.R_below (by (with_reducible repeat (first | apply rA | apply rN | apply rD)); exact HO248.out) hb)
                    have n12_ := aM (blk_below (g := gb151) (o := .cells #[.int .i64 a0_0, .string a0_1, .slice A0_2 l0_2.length c0_2, .slice A0_3 l0_3.length c0_3, .slice A0_4 l0_4.length c0_4, .slice A0_5 l0_5.length c0_5, .int .i64 a0_6] 50 (0, 0)) (by (with_reducible repeat (first | refine blk_drewN ?_ _ | refine blk_drew ?_ | refine blk_alloc ?_ _)); exact BK151.out) hb)
                    have n13_ := aM (blk_below (g := gb152) (o := .cells #[.int .i64 a1_0, .string a1_1, .slice A1_2 l1_2.length c1_2, .slice A1_3 l1_3.length c1_3, .slice A1_4 l1_4.length c1_4, .slice A1_5 l1_5.length c1_5, .int .i64 a1_6] 50 (0, 0)) (by (with_reducible repeat (first | refine blk_drewN ?_ _ | refine blk_drew ?_ | refine blk_alloc ?_ _)); exact BK152.out) hb)
                    have n14_ := aM (blk_below (g := gb201) (o := .cells #[.int .i64 t186, .string t187, .slice Ao43 t188.length co43, .slice Ao44 t191.length co44, .slice Ao45 t194.length co45, .slice Ao46 t197.length co46, .int .i64 t200] 53 (0, 0)) (by (with_reducible repeat (first | refine blk_drewN ?_ _ | refine blk_drew ?_ | refine blk_alloc ?_ _)); exact BK201.out) hb)
                    have n15_ := aM (blk_below (g := gb217) (o := .cells #[.int .i64 t202, .string t203, .slice Ao54 t204.length co54, .slice Ao55 t207.length co55, .slice Ao56 t210.length co56, .slice Ao57 t213.length co57, .int .i64 t216] 53 (0, 0)) (by (with_reducible repeat (first | refine blk_drewN ?_ _ | refine blk_drew ?_ | refine blk_alloc ?_ _)); exact BK217.out) hb)
                    have n16_ := aM (below_step (by repeat (first | (with_reducible first | exact HB.out | apply below_alloc | apply pw_below_drewN | apply below_drew1 | refine below_set ?_ GE151.out | refine below_set ?_ GE152.out | refine below_set ?_ GE201.out | refine below_set ?_ GE217.out) | exact HB.out)) hb)
                    clear HO_202002
                    clear HO_202003
                    clear HO_202004
                    clear HO_202005
                    clear HO_218002
                    clear HO_218003
                    clear HO_218004
                    clear HO_218005
                    clear HO239
                    clear HO242
                    clear HO245
                    clear HO248
                    clear BK151
                    clear BK152
                    clear BK201
                    clear BK217
                    clear HB
                    have HO_202002 := n0_
                    have HO_202003 := n1_
                    have HO_202004 := n2_
                    have HO_202005 := n3_
                    have HO_218002 := n4_
                    have HO_218003 := n5_
                    have HO_218004 := n6_
                    have HO_218005 := n7_
                    have HO239 := n8_
                    have HO242 := n9_
                    have HO245 := n10_
                    have HO248 := n11_
                    have BK151 := n12_
                    have BK152 := n13_
                    have BK201 := n14_
                    have BK217 := n15_
                    have HB := n16_
                    clear n0_ n1_ n2_ n3_ n4_ n5_ n6_ n7_ n8_ n9_ n10_ n11_ n12_ n13_ n14_ n15_ n16_
                    (try clear hb)
                    (try clear hb2)
                    (try clear hk)
                    (try clear hi)
                    refine hK.out _ _ ⟨(blk_cell BK217.out 0).trans rfl, (blk_cell BK217.out 1).trans rfl, (blk_cell BK217.out 2).trans rfl, (blk_cell BK217.out 3).trans rfl, (blk_cell BK217.out 4).trans rfl, (blk_cell BK217.out 5).trans rfl, (blk_cell BK217.out 6).trans rfl, (blk_cell BK152.out 0).trans rfl, (blk_cell BK152.out 1).trans rfl, (blk_cell BK152.out 2).trans rfl, (blk_cell BK152.out 3).trans rfl, (blk_cell BK152.out 4).trans rfl, (blk_cell BK152.out 5).trans rfl, (blk_cell BK152.out 6).trans rfl⟩ (fun hHeld => ?_)
                    clear hK K
                    refine norm_ (a' := ?_) ?_ ?_
                    rotate_left
                    · show Act.put _ (some 43) _ = _
                      simp only [Act.put, List.setIfInBounds_toArray, List.set_cons_zero, List.set_cons_succ, i64_w, i32_w]
                      rfl
                    refine pure_ (i := 4) (N := some 44) (v := ?_) (a' := ?_) #[true, true, true, true, true] rfl rfl (by kernel_rfl) (fun _ _ _ h => h) (Or.inl ⟨by rfl, ?_⟩) ?_ ?_
                    rotate_left
                    · intro w'
                      go_simp
                      with_reducible rfl
                    rotate_left
                    · simp only [Act.put, List.setIfInBounds_toArray, List.set_cons_zero, List.set_cons_succ, i64_w, i32_w]
                      rfl
                    refine done_ (by kernel_rfl) ?_
                    try go_wp2
                    go_ret
                    exact ⟨by first | rfl | (simp [errW_none, errW_some] <;> rfl) | (simp [*, errW_none, errW_some] <;> rfl), by repeat (first | (with_reducible first | exact HB.out | apply below_alloc | apply pw_below_drewN | apply below_drew1 | refine below_set ?_ GE151.out | refine below_set ?_ GE152.out | refine below_set ?_ GE201.out | refine below_set ?_ GE217.out) | exact HB.out)⟩

end Go.Proofs.Ytkjnlnkleplfhaa.QFnExactSameLine
