/- What some Go functions answer, each as a Lean function, and that the machine answers so: written by a program of this session out of the translation. -/
import Derived.Test.YtdahcapolipnbaaQFnExactRuleForx0
import Derived.Test.YtdahcapolipnbaaQFnExactRuleForx5
namespace Go.Proofs.Ytdahcapolipnbaa.QFnExactRuleFor
open Go.RowKit Go.Proofs.YtdahcapolipnbaaW.PrintWords Go.Proofs.YtdahcapolipnbaaW.PrintLast Go.Proofs.YtdahcapolipnbaaW.PrintMore Go.Proofs.Ytdahcapolipnbaa.Rp
attribute [local go_sem] max2_int min2_int max_two min_two max_three min_three max_four min_four   -- for this text's walks alone
set_option linter.unusedVariables false
set_option linter.unusedSimpArgs false

/-! ### spec_l26Matches_at: function 74 -/
abbrev mkspec_l754_0 : Array Bool := #[ff,ff,ff,ff,ff,ff,ff,ff,ff,ff,ff,ff,ff,ff,ff,ff,ff,ff,ff,ff,ff,ff,ff,ff,ff,ff,ff,ff,ff,ff,ff,ff,ff,ff,ff,ff,ff,ff]
abbrev mkspec_l754_1 : Array Bool := #[tt,ff,ff,ff,ff,ff,ff,ff,ff,ff,ff,ff,ff,ff,ff,ff,ff,ff,ff,ff,ff,ff,ff,ff,ff,ff,ff,ff,ff,ff,ff,ff,ff,ff,ff,ff,ff,ff]
abbrev mkspec_l754_2 : Array Bool := #[tt,tt,ff,ff,ff,ff,ff,ff,ff,ff,ff,ff,ff,ff,ff,ff,ff,ff,ff,ff,ff,ff,ff,ff,ff,ff,ff,ff,ff,ff,ff,ff,ff,ff,ff,ff,ff,ff]
abbrev mkspec_l754_3 : Array Bool := #[tt,tt,tt,ff,ff,ff,ff,ff,ff,ff,ff,ff,ff,ff,ff,ff,ff,ff,ff,ff,ff,ff,ff,ff,ff,ff,ff,ff,ff,ff,ff,ff,ff,ff,ff,ff,ff,ff]
abbrev mkspec_l754_4 : Array Bool := #[tt,tt,tt,ff,tt,ff,ff,ff,ff,ff,ff,ff,ff,ff,ff,ff,ff,ff,ff,ff,ff,ff,ff,ff,ff,ff,ff,ff,ff,ff,ff,ff,ff,ff,ff,ff,ff,ff]
abbrev mkspec_l754_5 : Array Bool := #[tt,tt,tt,ff,tt,tt,ff,ff,ff,ff,ff,ff,ff,ff,ff,ff,ff,ff,ff,ff,ff,ff,ff,ff,ff,ff,ff,ff,ff,ff,ff,ff,ff,ff,ff,ff,ff,ff]
abbrev mkspec_l754_6 : Array Bool := #[tt,tt,tt,tt,tt,tt,ff,ff,ff,ff,ff,ff,ff,ff,ff,ff,ff,ff,ff,ff,ff,ff,ff,ff,ff,ff,ff,ff,ff,ff,ff,ff,ff,ff,ff,ff,ff,ff]
abbrev mkspec_l754_7 : Array Bool := #[tt,tt,tt,tt,tt,tt,tt,ff,ff,ff,ff,ff,ff,ff,ff,ff,ff,ff,ff,ff,ff,ff,ff,ff,ff,ff,ff,ff,ff,ff,ff,ff,ff,ff,ff,ff,ff,ff]
abbrev mkspec_l754_8 : Array Bool := #[tt,tt,tt,tt,tt,tt,tt,tt,ff,ff,ff,ff,ff,ff,ff,ff,ff,ff,ff,ff,ff,ff,ff,ff,ff,ff,ff,ff,ff,ff,ff,ff,ff,ff,ff,ff,ff,ff]
abbrev mkspec_l754_9 : Array Bool := #[tt,tt,tt,tt,tt,tt,tt,tt,tt,ff,ff,ff,ff,ff,ff,ff,ff,ff,ff,ff,ff,ff,ff,ff,ff,ff,ff,ff,ff,ff,ff,ff,ff,ff,ff,ff,ff,ff]
abbrev mkspec_l754_10 : Array Bool := #[tt,tt,tt,tt,tt,tt,tt,tt,tt,tt,ff,ff,ff,ff,ff,ff,ff,ff,ff,ff,ff,ff,ff,ff,ff,ff,ff,ff,ff,ff,ff,ff,ff,ff,ff,ff,ff,ff]
abbrev mkspec_l754_11 : Array Bool := #[tt,tt,tt,tt,tt,tt,tt,tt,tt,tt,tt,ff,ff,ff,ff,ff,ff,ff,ff,ff,ff,ff,ff,ff,ff,ff,ff,ff,ff,ff,ff,ff,ff,ff,ff,ff,ff,ff]
abbrev mkspec_l754_12 : Array Bool := #[tt,tt,tt,tt,tt,tt,tt,tt,tt,tt,tt,ff,tt,ff,ff,ff,ff,ff,ff,ff,ff,ff,ff,ff,ff,ff,ff,ff,ff,ff,ff,ff,ff,ff,ff,ff,ff,ff]
abbrev mkspec_l754_13 : Array Bool := #[tt,tt,tt,tt,tt,tt,tt,tt,tt,tt,tt,tt,ff,ff,ff,ff,ff,ff,ff,ff,ff,ff,ff,ff,ff,ff,ff,ff,ff,ff,ff,ff,ff,ff,ff,ff,ff,ff]
abbrev mkspec_l754_14 : Array Bool := #[tt,tt,tt,tt,tt,tt,tt,tt,tt,tt,tt,ff,tt,tt,ff,ff,ff,ff,ff,ff,ff,ff,ff,ff,ff,ff,ff,ff,ff,ff,ff,ff,ff,ff,ff,ff,ff,ff]
abbrev mkspec_l754_15 : Array Bool := #[tt,tt,tt,tt,tt,tt,tt,tt,tt,tt,tt,tt,tt,ff,ff,ff,ff,ff,ff,ff,ff,ff,ff,ff,ff,ff,ff,ff,ff,ff,ff,ff,ff,ff,ff,ff,ff,ff]
abbrev mkspec_l754_16 : Array Bool := #[tt,tt,tt,tt,tt,tt,tt,tt,tt,tt,tt,ff,tt,tt,tt,ff,ff,ff,ff,ff,ff,ff,ff,ff,ff,ff,ff,ff,ff,ff,ff,ff,ff,ff,ff,ff,ff,ff]
abbrev mkspec_l754_17 : Array Bool := #[tt,tt,tt,tt,tt,tt,tt,tt,tt,tt,tt,tt,tt,tt,ff,ff,ff,ff,ff,ff,ff,ff,ff,ff,ff,ff,ff,ff,ff,ff,ff,ff,ff,ff,ff,ff,ff,ff]
abbrev mkspec_l754_18 : Array Bool := #[tt,tt,tt,tt,tt,tt,tt,tt,tt,tt,tt,ff,tt,tt,tt,tt,ff,ff,ff,ff,ff,ff,ff,ff,ff,ff,ff,ff,ff,ff,ff,ff,ff,ff,ff,ff,ff,ff]
abbrev mkspec_l754_19 : Array Bool := #[tt,tt,tt,tt,tt,tt,tt,tt,tt,tt,tt,tt,tt,tt,tt,ff,ff,ff,ff,ff,ff,ff,ff,ff,ff,ff,ff,ff,ff,ff,ff,ff,ff,ff,ff,ff,ff,ff]
abbrev mkspec_l754_20 : Array Bool := #[tt,tt,tt,tt,tt,tt,tt,tt,tt,tt,tt,ff,tt,tt,tt,tt,tt,ff,ff,ff,ff,ff,ff,ff,ff,ff,ff,ff,ff,ff,ff,ff,ff,ff,ff,ff,ff,ff]
abbrev mkspec_l754_21 : Array Bool := #[tt,tt,tt,tt,tt,tt,tt,tt,tt,tt,tt,tt,tt,tt,tt,tt,ff,ff,ff,ff,ff,ff,ff,ff,ff,ff,ff,ff,ff,ff,ff,ff,ff,ff,ff,ff,ff,ff]
abbrev mkspec_l754_22 : Array Bool := #[tt,tt,tt,tt,tt,tt,tt,tt,tt,tt,tt,tt,tt,tt,tt,tt,tt,ff,ff,ff,ff,ff,ff,ff,ff,ff,ff,ff,ff,ff,ff,ff,ff,ff,ff,ff,ff,ff]
abbrev mkspec_l754_23 : Array Bool := #[tt,tt,tt,tt,tt,tt,tt,tt,tt,tt,tt,tt,tt,tt,tt,tt,tt,tt,ff,ff,ff,ff,ff,ff,ff,ff,ff,ff,ff,ff,ff,ff,ff,ff,ff,ff,ff,ff]
abbrev mkspec_l754_24 : Array Bool := #[tt,tt,tt,tt,tt,tt,tt,tt,tt,tt,tt,tt,tt,tt,tt,tt,tt,tt,tt,ff,ff,ff,ff,ff,ff,ff,ff,ff,ff,ff,ff,ff,ff,ff,ff,ff,ff,ff]
abbrev mkspec_l754_25 : Array Bool := #[tt,tt,tt,tt,tt,tt,tt,tt,tt,tt,tt,tt,tt,tt,tt,tt,tt,tt,tt,tt,ff,ff,ff,ff,ff,ff,ff,ff,ff,ff,ff,ff,ff,ff,ff,ff,ff,ff]
abbrev mkspec_l754_26 : Array Bool := #[tt,tt,tt,tt,tt,tt,tt,tt,tt,tt,tt,tt,tt,tt,tt,tt,tt,tt,tt,tt,tt,ff,ff,ff,ff,ff,ff,ff,ff,ff,ff,ff,ff,ff,ff,ff,ff,ff]
abbrev mkspec_l754_27 : Array Bool := #[tt,tt,tt,tt,tt,tt,tt,tt,tt,tt,tt,tt,tt,tt,tt,tt,tt,tt,tt,tt,tt,tt,ff,ff,ff,ff,ff,ff,ff,ff,ff,ff,ff,ff,ff,ff,ff,ff]
abbrev mkspec_l754_28 : Array Bool := #[tt,tt,tt,tt,tt,tt,tt,tt,tt,tt,tt,tt,tt,tt,tt,tt,tt,tt,tt,tt,tt,tt,tt,ff,ff,ff,ff,ff,ff,ff,ff,ff,ff,ff,ff,ff,ff,ff]
abbrev mkspec_l754_29 : Array Bool := #[tt,tt,tt,tt,tt,tt,tt,tt,tt,tt,tt,tt,tt,tt,tt,tt,tt,tt,tt,tt,tt,tt,tt,tt,ff,ff,ff,ff,ff,ff,ff,ff,ff,ff,ff,ff,ff,ff]
abbrev mkspec_l754_30 : Array Bool := #[tt,tt,tt,tt,tt,tt,tt,tt,tt,tt,tt,tt,tt,tt,tt,tt,tt,tt,tt,tt,tt,tt,tt,tt,tt,ff,ff,ff,ff,ff,ff,ff,ff,ff,ff,ff,ff,ff]
abbrev mkspec_l754_31 : Array Bool := #[tt,tt,tt,tt,tt,tt,tt,tt,tt,tt,tt,tt,tt,tt,tt,tt,tt,tt,tt,tt,tt,tt,tt,tt,tt,tt,ff,ff,ff,ff,ff,ff,ff,ff,ff,ff,ff,ff]
abbrev mkspec_l754_32 : Array Bool := #[tt,tt,tt,tt,tt,tt,tt,tt,tt,tt,tt,tt,tt,tt,tt,tt,tt,tt,tt,tt,tt,tt,tt,tt,tt,tt,ff,tt,ff,ff,ff,ff,ff,ff,ff,ff,ff,ff]
abbrev mkspec_l754_33 : Array Bool := #[tt,tt,tt,tt,tt,tt,tt,tt,tt,tt,tt,tt,tt,tt,tt,tt,tt,tt,tt,tt,tt,tt,tt,tt,tt,tt,tt,ff,ff,ff,ff,ff,ff,ff,ff,ff,ff,ff]
abbrev mkspec_l754_34 : Array Bool := #[tt,tt,tt,tt,tt,tt,tt,tt,tt,tt,tt,tt,tt,tt,tt,tt,tt,tt,tt,tt,tt,tt,tt,tt,tt,tt,ff,tt,tt,ff,ff,ff,ff,ff,ff,ff,ff,ff]
abbrev mkspec_l754_35 : Array Bool := #[tt,tt,tt,tt,tt,tt,tt,tt,tt,tt,tt,tt,tt,tt,tt,tt,tt,tt,tt,tt,tt,tt,tt,tt,tt,tt,tt,tt,ff,ff,ff,ff,ff,ff,ff,ff,ff,ff]
abbrev mkspec_l754_36 : Array Bool := #[tt,tt,tt,tt,tt,tt,tt,tt,tt,tt,tt,tt,tt,tt,tt,tt,tt,tt,tt,tt,tt,tt,tt,tt,tt,tt,ff,tt,tt,tt,ff,ff,ff,ff,ff,ff,ff,ff]
abbrev mkspec_l754_37 : Array Bool := #[tt,tt,tt,tt,tt,tt,tt,tt,tt,tt,tt,tt,tt,tt,tt,tt,tt,tt,tt,tt,tt,tt,tt,tt,tt,tt,tt,tt,tt,ff,ff,ff,ff,ff,ff,ff,ff,ff]
abbrev mkspec_l754_38 : Array Bool := #[tt,tt,tt,tt,tt,tt,tt,tt,tt,tt,tt,tt,tt,tt,tt,tt,tt,tt,tt,tt,tt,tt,tt,tt,tt,tt,ff,tt,tt,tt,tt,ff,ff,ff,ff,ff,ff,ff]
abbrev mkspec_l754_39 : Array Bool := #[tt,tt,tt,tt,tt,tt,tt,tt,tt,tt,tt,tt,tt,tt,tt,tt,tt,tt,tt,tt,tt,tt,tt,tt,tt,tt,tt,tt,tt,tt,ff,ff,ff,ff,ff,ff,ff,ff]
abbrev mkspec_l754_40 : Array Bool := #[tt,tt,tt,tt,tt,tt,tt,tt,tt,tt,tt,tt,tt,tt,tt,tt,tt,tt,tt,tt,tt,tt,tt,tt,tt,tt,ff,tt,tt,tt,tt,tt,ff,ff,ff,ff,ff,ff]
abbrev mkspec_l754_41 : Array Bool := #[tt,tt,tt,tt,tt,tt,tt,tt,tt,tt,tt,tt,tt,tt,tt,tt,tt,tt,tt,tt,tt,tt,tt,tt,tt,tt,tt,tt,tt,tt,tt,ff,ff,ff,ff,ff,ff,ff]
abbrev mkspec_l754_42 : Array Bool := #[tt,tt,tt,tt,tt,tt,tt,tt,tt,tt,tt,tt,tt,tt,tt,tt,tt,tt,tt,tt,tt,tt,tt,tt,tt,tt,tt,tt,tt,tt,tt,tt,ff,ff,ff,ff,ff,ff]
abbrev mkspec_l754_43 : Array Bool := #[tt,tt,tt,tt,tt,tt,tt,tt,tt,tt,tt,tt,tt,tt,tt,tt,tt,tt,tt,tt,tt,tt,tt,tt,tt,tt,tt,tt,tt,tt,tt,tt,tt,ff,ff,ff,ff,ff]
abbrev mkspec_l754_44 : Array Bool := #[tt,tt,tt,tt,tt,tt,tt,tt,tt,tt,tt,tt,tt,tt,tt,tt,tt,tt,tt,tt,tt,tt,tt,tt,tt,tt,tt,tt,tt,tt,tt,tt,tt,tt,ff,ff,ff,ff]
abbrev mkspec_l754_45 : Array Bool := #[tt,tt,tt,tt,tt,tt,tt,tt,tt,tt,tt,tt,tt,tt,tt,tt,tt,tt,tt,tt,tt,tt,tt,tt,tt,tt,tt,tt,tt,tt,tt,tt,tt,tt,tt,ff,ff,ff]
abbrev mkspec_l754_46 : Array Bool := #[tt,tt,tt,tt,tt,tt,tt,tt,tt,tt,tt,tt,tt,tt,tt,tt,tt,tt,tt,tt,tt,tt,tt,tt,tt,tt,tt,tt,tt,tt,tt,tt,tt,tt,tt,tt,ff,ff]
abbrev mkspec_l754_47 : Array Bool := #[tt,tt,tt,tt,tt,tt,tt,tt,tt,tt,tt,tt,tt,tt,tt,tt,tt,tt,tt,tt,tt,tt,tt,tt,tt,tt,tt,tt,tt,tt,tt,tt,tt,tt,tt,tt,tt,ff]
abbrev mkspec_l754_48 : Array Bool := #[tt,tt,tt,tt,tt,tt,tt,tt,tt,tt,tt,tt,tt,tt,tt,tt,tt,tt,tt,tt,tt,tt,tt,tt,tt,tt,tt,tt,tt,tt,tt,tt,tt,tt,tt,tt,tt,tt]
def spec_l26Matches_at.f (k : Nat) (l0_0 : List (S38)) (a0_1 : Int) (l1 : List (S107)) (a2 : Int) : Option (Bool) := (spec_l26Fit.f k ((rd_T38 l0_0 a0_1).f1) l1 a2).bind fun t178 => (if t178 = true then ((spec_l26Fit.f k ((rd_T38 l0_0 a0_1).f0) l1 (wrap64 (a2 - (((rd_T38 l0_0 a0_1).f0).length : Int)))).bind fun t181 => (if t181 = true then ((spec_l26Fit.f k ((rd_T38 l0_0 a0_1).f2) l1 (wrap64 (a2 + (((rd_T38 l0_0 a0_1).f1).length : Int)))).bind fun t184 => (some t184)) else (some false))) else (some false))
theorem spec_l26Matches_at.mono : ∀ a0 a1 a2 a3 k, LeO (spec_l26Matches_at.f k a0 a1 a2 a3) (spec_l26Matches_at.f (k + 1) a0 a1 a2 a3) := by
 intro a0 a1 a2 a3 k
 unfold spec_l26Matches_at.f
 repeat' first
   | (with_reducible exact spec_l26Fit.mono _ _ _ _)
   | (with_reducible exact LeO.refl _)
   | (with_reducible exact LeO.none _)
   | (with_reducible refine LeO.ite ?_ ?_)
   | (with_reducible refine LeO.bind ?_ (fun _ => ?_))
   | exact spec_l26Fit.mono _ _ _ _
   | exact LeO.none _
   | refine LeO.ite ?_ ?_
   | refine LeO.bind ?_ (fun _ => ?_)
def spec_l26Matches_at.T1 : Bool × List (List Nat × List Nat) := (true, [([], []), ([0], [0]), ([1], [1]), ([2], [2]), ([], []), ([], []), ([3, 4, 5], [3, 4, 5]), ([6, 6], [6]), ([7], [7]), ([8, 7], [7, 8]), ([9, 7], [7, 9]), ([10, 7], [7, 10]), ([7], [7]), ([7], [7]), ([7], [7]), ([14, 7], [7, 14]), ([15, 7], [7, 15]), ([16, 7], [7, 16]), ([17, 7], [7, 17]), ([13, 18, 7], [7, 13, 18]), ([11, 12, 19, 7, 7], [7, 11, 12, 19]), ([7, 20], [7, 20]), ([21, 20], [21]), ([22], [22]), ([23, 22], [22, 23]), ([24, 22], [22, 24]), ([25, 22], [22, 25]), ([22], [22]), ([22], [22]), ([22], [22]), ([29, 22], [22, 29]), ([30, 22], [22, 30]), ([31, 22], [22, 31]), ([32, 22], [22, 32]), ([28, 33, 22], [22, 28, 33]), ([26, 27, 34, 22, 22], [22, 26, 27, 34]), ([22, 35], [22, 35]), ([36, 35, 0, 1, 2, 3, 4, 5, 6, 7, 8, 9, 10, 11, 12, 13, 14, 15, 16, 17, 18, 19, 20, 21, 22, 23, 24, 25, 26, 27, 28, 29, 30, 31, 32, 33, 34, 35, 36], [36])])
def spec_l26Matches_at.B1 : List Nat := [0, 1, 3, 7, 0, 0, 63, 127, 255, 511, 1023, 2047, 255, 255, 255, 16639, 49407, 114943, 246015, 516351, 1048575, 2097151, 4194303, 8388607, 16777215, 33554431, 67108863, 8388607, 8388607, 8388607, 545259519, 1619001343, 3766484991, 8061452287, 16919822335, 34359738367, 68719476735, 137438953471]
theorem spec_l26Matches_at.tab1 : rtab .any (opsOf Try.f74 1) = spec_l26Matches_at.T1 := by kernel_rfl
theorem spec_l26Matches_at.bits1 : waitsOk spec_l26Matches_at.T1.2 spec_l26Matches_at.B1 = true := by kernel_rfl
set_option maxHeartbeats 8000000 in
set_option maxRecDepth 100000 in
theorem spec_l26Matches_at.calls (k : Nat) (p0_ : Addr) (l0_0 : List (S38)) (a0_1 : Int) (A1 : Option Addr) (c1 : Nat) (l1 : List (S107)) (a2 : Int) (r : Bool) (w : World) (hP0_ : RPtr k38 ((a0_1 : Int).toNat * 4) w p0_ l0_0 a0_1) (hr1 : Kd.C k107 w A1 l1.length l1) (hc1 : l1.length ≤ c1) (h : spec_l26Matches_at.f k l0_0 a0_1 l1 a2 = some r) :
  Calls Try.prog 74 #[.pointer (some p0_), .slice A1 l1.length c1, .int .i64 a2] w fun e w' => e = .returned (.bool r) ∧ Below w.heap.size w w' := by
 obtain ⟨ad0_, rfl, hr0_0, hi0_, hj0_⟩ := hP0_
 have hc0_0 : l0_0.length ≤ l0_0.length := Nat.le_refl _
 replace hi0_ := decide_eq_true hi0_
 replace hj0_ := decide_eq_true hj0_
 obtain ⟨ad9000, A9000_0, c9000_0, A9000_1, c9000_1, A9000_2, c9000_2, A9000_3, c9000_3, e9000, HX9000_0, HX9000_1, HX9000_2, HX9000_3, HC9000_0, HR9000_0, HC9000_1, HR9000_1, HC9000_2, HR9000_2, HC9000_3, HR9000_3⟩ := at_T38 hr0_0 a0_1 (of_decide_eq_true hi0_) (of_decide_eq_true hj0_)
 obtain rfl : ad0_ = ad9000 := (by injection e9000)
 replace HX9000_0 := aM HX9000_0
 replace HX9000_1 := aM HX9000_1
 replace HX9000_2 := aM HX9000_2
 replace HX9000_3 := aM HX9000_3
 replace HC9000_0 := aM HC9000_0
 replace HR9000_0 := aM HR9000_0
 replace HC9000_1 := aM HC9000_1
 replace HR9000_1 := aM HR9000_1
 replace HC9000_2 := aM HC9000_2
 replace HR9000_2 := aM HR9000_2
 replace HC9000_3 := aM HC9000_3
 replace HR9000_3 := aM HR9000_3
 have HR0_0 := aM hr0_0
 have HC0_0 := aM hc0_0
 clear hr0_0 hc0_0
 have HR1 := aM hr1
 have HC1 := aM hc1
 clear hr1 hc1
 have HB := aM (Below.refl w.heap.size w)
 have H : ((spec_l26Fit.f k ((rd_T38 l0_0 a0_1).f1) l1 a2).bind fun t178 => (if t178 = true then ((spec_l26Fit.f k ((rd_T38 l0_0 a0_1).f0) l1 (wrap64 (a2 - (((rd_T38 l0_0 a0_1).f0).length : Int)))).bind fun t181 => (if t181 = true then ((spec_l26Fit.f k ((rd_T38 l0_0 a0_1).f2) l1 (wrap64 (a2 + (((rd_T38 l0_0 a0_1).f1).length : Int)))).bind fun t184 => (some t184)) else (some false))) else (some false))) = some r := h
 clear h
 replace H := Option.bind_eq_some_iff.mp H
 obtain ⟨t178, A40, H⟩ := H
 replace H : (if t178 = true then ((spec_l26Fit.f k ((rd_T38 l0_0 a0_1).f0) l1 (wrap64 (a2 - (((rd_T38 l0_0 a0_1).f0).length : Int)))).bind fun t181 => (if t181 = true then ((spec_l26Fit.f k ((rd_T38 l0_0 a0_1).f2) l1 (wrap64 (a2 + (((rd_T38 l0_0 a0_1).f1).length : Int)))).bind fun t184 => (some t184)) else (some false))) else (some false)) = some r := H
 have A4 := aM A40
 clear A40
 by_cases c5 : t178 = true
 ·subst c5
  have H1 : ((spec_l26Fit.f k ((rd_T38 l0_0 a0_1).f0) l1 (wrap64 (a2 - (((rd_T38 l0_0 a0_1).f0).length : Int)))).bind fun t181 => (if t181 = true then ((spec_l26Fit.f k ((rd_T38 l0_0 a0_1).f2) l1 (wrap64 (a2 + (((rd_T38 l0_0 a0_1).f1).length : Int)))).bind fun t184 => (some t184)) else (some false))) = some r := by rw [if_pos rfl] at H; exact H
  clear H
  have H := H1
  clear H1
  replace H := Option.bind_eq_some_iff.mp H
  obtain ⟨t181, A60, H⟩ := H
  replace H : (if t181 = true then ((spec_l26Fit.f k ((rd_T38 l0_0 a0_1).f2) l1 (wrap64 (a2 + (((rd_T38 l0_0 a0_1).f1).length : Int)))).bind fun t184 => (some t184)) else (some false)) = some r := H
  have A6 := aM A60
  clear A60
  by_cases c7 : t181 = true
  ·subst c7
   have H1 : ((spec_l26Fit.f k ((rd_T38 l0_0 a0_1).f2) l1 (wrap64 (a2 + (((rd_T38 l0_0 a0_1).f1).length : Int)))).bind fun t184 => (some t184)) = some r := by rw [if_pos rfl] at H; exact H
   clear H
   have H := H1
   clear H1
   replace H := Option.bind_eq_some_iff.mp H
   obtain ⟨t184, A80, H⟩ := H
   replace H : (some t184) = some r := H
   have A8 := aM A80
   clear A80
   obtain rfl := Option.some.inj H
   go_enter Try.func74, Try.ntmps74
   try go_wp2
   have n0_ := aM (below_drew1 HB.out)
   clear HB
   have HB := n0_
   clear n0_
   have hx177_0 := HX9000_0.out
   have hx177_1 := HX9000_1.out
   have hx177_2 := HX9000_2.out
   have hx177_3 := HX9000_3.out
   have hw177_3 := hx177_3
   have hw177_2 := hx177_2
   have hw177_1 := hx177_1
   have hw177_0 := hx177_0
   replace hx177_0 := cB HB.out hx177_0
   replace hx177_1 := cB HB.out hx177_1
   replace hx177_2 := cB HB.out hx177_2
   replace hx177_3 := cB HB.out hx177_3
   have HR177_0 := HR9000_0
   have HC177_0 := HC9000_0
   have HR177_1 := HR9000_1
   have HC177_1 := HC9000_1
   have HR177_2 := HR9000_2
   have HC177_2 := HC9000_2
   have HR177_3 := HR9000_3
   have HC177_3 := HC9000_3
   have hx179_0 := HX9000_0.out
   have hx179_1 := HX9000_1.out
   have hx179_2 := HX9000_2.out
   have hx179_3 := HX9000_3.out
   have hw179_3 := hx179_3
   have hw179_2 := hx179_2
   have hw179_1 := hx179_1
   have hw179_0 := hx179_0
   replace hx179_0 := cB HB.out hx179_0
   replace hx179_1 := cB HB.out hx179_1
   replace hx179_2 := cB HB.out hx179_2
   replace hx179_3 := cB HB.out hx179_3
   have HR179_0 := HR9000_0
   have HC179_0 := HC9000_0
   have HR179_1 := HR9000_1
   have HC179_1 := HC9000_1
   have HR179_2 := HR9000_2
   have HC179_2 := HC9000_2
   have HR179_3 := HR9000_3
   have HC179_3 := HC9000_3
   have hx180_0 := HX9000_0.out
   have hx180_1 := HX9000_1.out
   have hx180_2 := HX9000_2.out
   have hx180_3 := HX9000_3.out
   have hw180_3 := hx180_3
   have hw180_2 := hx180_2
   have hw180_1 := hx180_1
   have hw180_0 := hx180_0
   replace hx180_0 := cB HB.out hx180_0
   replace hx180_1 := cB HB.out hx180_1
   replace hx180_2 := cB HB.out hx180_2
   replace hx180_3 := cB HB.out hx180_3
   have HR180_0 := HR9000_0
   have HC180_0 := HC9000_0
   have HR180_1 := HR9000_1
   have HC180_1 := HC9000_1
   have HR180_2 := HR9000_2
   have HC180_2 := HC9000_2
   have HR180_3 := HR9000_3
   have HC180_3 := HC9000_3
   have hx182_0 := HX9000_0.out
   have hx182_1 := HX9000_1.out
   have hx182_2 := HX9000_2.out
   have hx182_3 := HX9000_3.out
   have hw182_3 := hx182_3
   have hw182_2 := hx182_2
   have hw182_1 := hx182_1
   have hw182_0 := hx182_0
   replace hx182_0 := cB HB.out hx182_0
   replace hx182_1 := cB HB.out hx182_1
   replace hx182_2 := cB HB.out hx182_2
   replace hx182_3 := cB HB.out hx182_3
   have HR182_0 := HR9000_0
   have HC182_0 := HC9000_0
   have HR182_1 := HR9000_1
   have HC182_1 := HC9000_1
   have HR182_2 := HR9000_2
   have HC182_2 := HC9000_2
   have HR182_3 := HR9000_3
   have HC182_3 := HC9000_3
   have hx183_0 := HX9000_0.out
   have hx183_1 := HX9000_1.out
   have hx183_2 := HX9000_2.out
   have hx183_3 := HX9000_3.out
   have hw183_3 := hx183_3
   have hw183_2 := hx183_2
   have hw183_1 := hx183_1
   have hw183_0 := hx183_0
   replace hx183_0 := cB HB.out hx183_0
   replace hx183_1 := cB HB.out hx183_1
   replace hx183_2 := cB HB.out hx183_2
   replace hx183_3 := cB HB.out hx183_3
   have HR183_0 := HR9000_0
   have HC183_0 := HC9000_0
   have HR183_1 := HR9000_1
   have HC183_1 := HC9000_1
   have HR183_2 := HR9000_2
   have HC183_2 := HC9000_2
   have HR183_3 := HR9000_3
   have HC183_3 := HC9000_3
   refine start_ (n := 38) (S := fun w' => w'.cell? (ad0_.add ((a0_1).toNat * 4)) = some (.slice A9000_0 ((rd_T38 l0_0 a0_1).f0).length c9000_0) ∧ w'.cell? ⟨(ad0_.add ((a0_1).toNat * 4)).block, (ad0_.add ((a0_1).toNat * 4)).off + 1, none⟩ = some (.slice A9000_1 ((rd_T38 l0_0 a0_1).f1).length c9000_1) ∧ w'.cell? ⟨(ad0_.add ((a0_1).toNat * 4)).block, (ad0_.add ((a0_1).toNat * 4)).off + 2, none⟩ = some (.slice A9000_2 ((rd_T38 l0_0 a0_1).f2).length c9000_2) ∧ w'.cell? ⟨(ad0_.add ((a0_1).toNat * 4)).block, (ad0_.add ((a0_1).toNat * 4)).off + 3, none⟩ = some (.slice A9000_3 ((rd_T38 l0_0 a0_1).f3).length c9000_3) ∧ w'.cell? (ad0_.add ((a0_1).toNat * 4)) = some (.slice A9000_0 ((rd_T38 l0_0 a0_1).f0).length c9000_0) ∧ w'.cell? ⟨(ad0_.add ((a0_1).toNat * 4)).block, (ad0_.add ((a0_1).toNat * 4)).off + 1, none⟩ = some (.slice A9000_1 ((rd_T38 l0_0 a0_1).f1).length c9000_1) ∧ w'.cell? ⟨(ad0_.add ((a0_1).toNat * 4)).block, (ad0_.add ((a0_1).toNat * 4)).off + 2, none⟩ = some (.slice A9000_2 ((rd_T38 l0_0 a0_1).f2).length c9000_2) ∧ w'.cell? ⟨(ad0_.add ((a0_1).toNat * 4)).block, (ad0_.add ((a0_1).toNat * 4)).off + 3, none⟩ = some (.slice A9000_3 ((rd_T38 l0_0 a0_1).f3).length c9000_3) ∧ w'.cell? (ad0_.add ((a0_1).toNat * 4)) = some (.slice A9000_0 ((rd_T38 l0_0 a0_1).f0).length c9000_0) ∧ w'.cell? ⟨(ad0_.add ((a0_1).toNat * 4)).block, (ad0_.add ((a0_1).toNat * 4)).off + 1, none⟩ = some (.slice A9000_1 ((rd_T38 l0_0 a0_1).f1).length c9000_1) ∧ w'.cell? ⟨(ad0_.add ((a0_1).toNat * 4)).block, (ad0_.add ((a0_1).toNat * 4)).off + 2, none⟩ = some (.slice A9000_2 ((rd_T38 l0_0 a0_1).f2).length c9000_2) ∧ w'.cell? ⟨(ad0_.add ((a0_1).toNat * 4)).block, (ad0_.add ((a0_1).toNat * 4)).off + 3, none⟩ = some (.slice A9000_3 ((rd_T38 l0_0 a0_1).f3).length c9000_3) ∧ w'.cell? (ad0_.add ((a0_1).toNat * 4)) = some (.slice A9000_0 ((rd_T38 l0_0 a0_1).f0).length c9000_0) ∧ w'.cell? ⟨(ad0_.add ((a0_1).toNat * 4)).block, (ad0_.add ((a0_1).toNat * 4)).off + 1, none⟩ = some (.slice A9000_1 ((rd_T38 l0_0 a0_1).f1).length c9000_1) ∧ w'.cell? ⟨(ad0_.add ((a0_1).toNat * 4)).block, (ad0_.add ((a0_1).toNat * 4)).off + 2, none⟩ = some (.slice A9000_2 ((rd_T38 l0_0 a0_1).f2).length c9000_2) ∧ w'.cell? ⟨(ad0_.add ((a0_1).toNat * 4)).block, (ad0_.add ((a0_1).toNat * 4)).off + 3, none⟩ = some (.slice A9000_3 ((rd_T38 l0_0 a0_1).f3).length c9000_3) ∧ w'.cell? (ad0_.add ((a0_1).toNat * 4)) = some (.slice A9000_0 ((rd_T38 l0_0 a0_1).f0).length c9000_0) ∧ w'.cell? ⟨(ad0_.add ((a0_1).toNat * 4)).block, (ad0_.add ((a0_1).toNat * 4)).off + 1, none⟩ = some (.slice A9000_1 ((rd_T38 l0_0 a0_1).f1).length c9000_1) ∧ w'.cell? ⟨(ad0_.add ((a0_1).toNat * 4)).block, (ad0_.add ((a0_1).toNat * 4)).off + 2, none⟩ = some (.slice A9000_2 ((rd_T38 l0_0 a0_1).f2).length c9000_2) ∧ w'.cell? ⟨(ad0_.add ((a0_1).toNat * 4)).block, (ad0_.add ((a0_1).toNat * 4)).off + 3, none⟩ = some (.slice A9000_3 ((rd_T38 l0_0 a0_1).f3).length c9000_3)) (ds := []) mkspec_l754_0 (by kernel_rfl) rfl rfl ⟨(cB HB.out hw177_0), (cB HB.out hw177_1), (cB HB.out hw177_2), (cB HB.out hw177_3), (cB HB.out hw179_0), (cB HB.out hw179_1), (cB HB.out hw179_2), (cB HB.out hw179_3), (cB HB.out hw180_0), (cB HB.out hw180_1), (cB HB.out hw180_2), (cB HB.out hw180_3), (cB HB.out hw182_0), (cB HB.out hw182_1), (cB HB.out hw182_2), (cB HB.out hw182_3), (cB HB.out hw183_0), (cB HB.out hw183_1), (cB HB.out hw183_2), (cB HB.out hw183_3)⟩ (fun hHeld => ?_); refine with_tabW spec_l26Matches_at.tab1 spec_l26Matches_at.bits1 (fun HT_ HW_ => ?_)
   generalize w.drew = w9 at HB HR177_0 HR177_1 HR177_2 HR177_3 HR179_0 HR179_1 HR179_2 HR179_3 HR180_0 HR180_1 HR180_2 HR180_3 HR182_0 HR182_1 HR182_2 HR182_3 HR183_0 HR183_1 HR183_2 HR183_3 hx177_0 hx177_1 hx177_2 hx177_3 hx179_0 hx179_1 hx179_2 hx179_3 hx180_0 hx180_1 hx180_2 hx180_3 hx182_0 hx182_1 hx182_2 hx182_3 hx183_0 hx183_1 hx183_2 hx183_3 hHeld ⊢
   refine pure_ (i := 0) (N := some 7) (v := ?_) (a' := ?_) mkspec_l754_1 rfl rfl (any_of HT_.out (by kernel_rfl)) (fun _ _ _ h => h) (Or.inl ⟨by rfl, ?_⟩) ?_ ?_
   rotate_left
   ·intro w'
    go_simp
    with_reducible rfl
   rotate_left
   ·simp only [Act.put, sI, sZ, sS, i64_w, i32_w]
    rfl
   refine pure_ (i := 1) (N := some 8) (v := ?_) (a' := ?_) mkspec_l754_2 rfl rfl (any_of HT_.out (by kernel_rfl)) (fun _ _ _ h => h) (Or.inl ⟨by rfl, ?_⟩) ?_ ?_
   rotate_left
   ·intro w'
    go_simp
    with_reducible rfl
   rotate_left
   ·simp only [Act.put, sI, sZ, sS, i64_w, i32_w]
    rfl
   refine pure_ (i := 2) (N := some 9) (v := ?_) (a' := ?_) mkspec_l754_3 rfl rfl (any_of HT_.out (by kernel_rfl)) (fun _ _ _ h => h) (Or.inl ⟨by rfl, ?_⟩) ?_ ?_
   rotate_left
   ·intro w'
    go_simp
    with_reducible rfl
   rotate_left
   ·simp only [Act.put, sI, sZ, sS, i64_w, i32_w]
    rfl
   refine pure_ (i := 4) (N := some 11) (v := ?_) (a' := ?_) mkspec_l754_4 rfl rfl (any_of HT_.out (by kernel_rfl)) (fun _ _ _ h => h) (Or.inl ⟨by rfl, ?_⟩) ?_ ?_
   rotate_left
   ·intro w'
    go_simp
    with_reducible rfl
   rotate_left
   ·simp only [Act.put, sI, sZ, sS, i64_w, i32_w]
    rfl
   refine pure_ (i := 5) (N := some 12) (v := ?_) (a' := ?_) mkspec_l754_5 rfl rfl (any_of HT_.out (by kernel_rfl)) (fun _ _ _ h => h) (Or.inl ⟨by rfl, ?_⟩) ?_ ?_
   rotate_left
   ·intro w'
    go_simp
    with_reducible rfl
   rotate_left
   ·simp only [Act.put, sI, sZ, sS, i64_w, i32_w]
    rfl
   refine take_ (i := 3) (N := some 10) (v := ?_) (a' := ?_) mkspec_l754_6 rfl rfl (take_ofW HT_.out HW_.out (by kernel_rfl)) (fun _ _ _ h => h) (Or.inl ⟨by rfl, ?_⟩) hHeld ?_ ?_
   rotate_left
   ·rintro w' ⟨s0, s1, s2, s3, s4, s5, s6, s7, s8, s9, s10, s11, s12, s13, s14, s15, s16, s17, s18, s19⟩
    go_simp
    with_reducible rfl
   rotate_left
   ·simp only [Act.put, sI, sZ, sS, i64_w, i32_w]
    rfl
   refine one_ (i := 6) (N := some 13) mkspec_l754_7 rfl rfl (one_of HT_.out (by kernel_rfl)) (by decide) (fun K hK => ?_)
   refine goes_ Try.func138 (by kernel_rfl) rfl #[.slice A9000_1 ((rd_T38 l0_0 a0_1).f1).length c9000_1, .slice A1 l1.length c1, .int .i64 a2] (by rfl) rfl rfl gQ ?_
   with_reducible refine (spec_l26Fit.calls k _ _ ((rd_T38 l0_0 a0_1).f1) _ _ l1 a2 true _ ?side1 ?side2 ?side3 ?side4 A4.out).mono ?_
   (case side1 => exact cQ HR177_1.out)
   (case side2 => exact HC177_1.out)
   (case side3 => exact cQ HR1.out)
   (case side4 => exact HC1.out)
   rintro e w' ⟨rfl, ⟨nd, rfl⟩⟩
   refine ⟨_, rfl, ?_⟩
   refine hK.out _ _ ⟨(cB HB.out hw177_0), (cB HB.out hw177_1), (cB HB.out hw177_2), (cB HB.out hw177_3), (cB HB.out hw179_0), (cB HB.out hw179_1), (cB HB.out hw179_2), (cB HB.out hw179_3), (cB HB.out hw180_0), (cB HB.out hw180_1), (cB HB.out hw180_2), (cB HB.out hw180_3), (cB HB.out hw182_0), (cB HB.out hw182_1), (cB HB.out hw182_2), (cB HB.out hw182_3), (cB HB.out hw183_0), (cB HB.out hw183_1), (cB HB.out hw183_2), (cB HB.out hw183_3)⟩ (fun hHeld => ?_)
   clear hK K
   refine norm_ (a' := ?_) ?_ ?_
   rotate_left
   ·show Act.put _ (some 13) _ = _
    simp only [Act.put, sI, sZ, sS, i64_w, i32_w]
    rfl
   refine pure_ (i := 7) (N := some 14) (v := ?_) (a' := ?_) mkspec_l754_8 rfl rfl (any_of HT_.out (by kernel_rfl)) (fun _ _ _ h => h) (Or.inl ⟨by rfl, ?_⟩) ?_ ?_
   rotate_left
   ·intro w'
    go_simp
    with_reducible rfl
   rotate_left
   ·simp only [Act.put, sI, sZ, sS, i64_w, i32_w]
    rfl
   refine pure_ (i := 8) (N := some 15) (v := ?_) (a' := ?_) mkspec_l754_9 rfl rfl (any_of HT_.out (by kernel_rfl)) (fun _ _ _ h => h) (Or.inl ⟨by rfl, ?_⟩) ?_ ?_
   rotate_left
   ·intro w'
    go_simp
    with_reducible rfl
   rotate_left
   ·simp only [Act.put, sI, sZ, sS, i64_w, i32_w]
    rfl
   refine pure_ (i := 9) (N := some 16) (v := ?_) (a' := ?_) mkspec_l754_10 rfl rfl (any_of HT_.out (by kernel_rfl)) (fun _ _ _ h => h) (Or.inl ⟨by rfl, ?_⟩) ?_ ?_
   rotate_left
   ·intro w'
    go_simp
    with_reducible rfl
   rotate_left
   ·simp only [Act.put, sI, sZ, sS, i64_w, i32_w]
    rfl
   refine pure_ (i := 10) (N := some 17) (v := ?_) (a' := ?_) mkspec_l754_11 rfl rfl (any_of HT_.out (by kernel_rfl)) (fun _ _ _ h => h) (Or.inl ⟨by rfl, ?_⟩) ?_ ?_
   rotate_left
   ·intro w'
    go_simp
    with_reducible rfl
   rotate_left
   ·simp only [Act.put, sI, sZ, sS, i64_w, i32_w]
    rfl
   refine pure_ (i := 12) (N := some 19) (v := ?_) (a' := ?_) mkspec_l754_12 rfl rfl (any_of HT_.out (by kernel_rfl)) (fun _ _ _ h => h) (Or.inl ⟨by rfl, ?_⟩) ?_ ?_
   rotate_left
   ·intro w'
    go_simp
    with_reducible rfl
   rotate_left
   ·simp only [Act.put, sI, sZ, sS, i64_w, i32_w]
    rfl
   refine pure_ (i := 13) (N := some 20) (v := ?_) (a' := ?_) mkspec_l754_14 rfl rfl (any_of HT_.out (by kernel_rfl)) (fun _ _ _ h => h) (Or.inl ⟨by rfl, ?_⟩) ?_ ?_
   rotate_left
   ·intro w'
    go_simp
    with_reducible rfl
   rotate_left
   ·simp only [Act.put, sI, sZ, sS, i64_w, i32_w]
    rfl
   refine pure_ (i := 14) (N := some 21) (v := ?_) (a' := ?_) mkspec_l754_16 rfl rfl (any_of HT_.out (by kernel_rfl)) (fun _ _ _ h => h) (Or.inl ⟨by rfl, ?_⟩) ?_ ?_
   rotate_left
   ·intro w'
    go_simp
    with_reducible rfl
   rotate_left
   ·simp only [Act.put, sI, sZ, sS, i64_w, i32_w]
    rfl
   refine pure_ (i := 15) (N := some 22) (v := ?_) (a' := ?_) mkspec_l754_18 rfl rfl (any_of HT_.out (by kernel_rfl)) (fun _ _ _ h => h) (Or.inl ⟨by rfl, ?_⟩) ?_ ?_
   rotate_left
   ·intro w'
    go_simp
    with_reducible rfl
   rotate_left
   ·simp only [Act.put, sI, sZ, sS, i64_w, i32_w]
    rfl
   refine pure_ (i := 16) (N := some 23) (v := ?_) (a' := ?_) mkspec_l754_20 rfl rfl (any_of HT_.out (by kernel_rfl)) (fun _ _ _ h => h) (Or.inl ⟨by rfl, ?_⟩) ?_ ?_
   rotate_left
   ·intro w'
    go_simp
    with_reducible rfl
   rotate_left
   ·simp only [Act.put, sI, sZ, sS, i64_w, i32_w]
    rfl
   refine take_ (i := 11) (N := some 18) (v := ?_) (a' := ?_) mkspec_l754_22 rfl rfl (take_ofW HT_.out HW_.out (by kernel_rfl)) (fun _ _ _ h => h) (Or.inl ⟨by rfl, ?_⟩) hHeld ?_ ?_
   rotate_left
   ·rintro w' ⟨s0, s1, s2, s3, s4, s5, s6, s7, s8, s9, s10, s11, s12, s13, s14, s15, s16, s17, s18, s19⟩
    go_simp
    with_reducible rfl
   rotate_left
   ·simp only [Act.put, sI, sZ, sS, i64_w, i32_w]
    rfl
   refine take_ (i := 17) (N := some 24) (v := ?_) (a' := ?_) mkspec_l754_23 rfl rfl (take_ofW HT_.out HW_.out (by kernel_rfl)) (fun _ _ _ h => h) (Or.inl ⟨by rfl, ?_⟩) hHeld ?_ ?_
   rotate_left
   ·rintro w' ⟨s0, s1, s2, s3, s4, s5, s6, s7, s8, s9, s10, s11, s12, s13, s14, s15, s16, s17, s18, s19⟩
    go_simp
    with_reducible rfl
   rotate_left
   ·simp only [Act.put, sI, sZ, sS, i64_w, i32_w]
    rfl
   refine pure_ (i := 18) (N := some 25) (v := ?_) (a' := ?_) mkspec_l754_24 rfl rfl (any_of HT_.out (by kernel_rfl)) (fun _ _ _ h => h) (Or.inl ⟨by rfl, ?_⟩) ?_ ?_
   rotate_left
   ·intro w'
    go_simp
    with_reducible rfl
   rotate_left
   ·simp only [Act.put, sI, sZ, sS, i64_w, i32_w]
    rfl
   refine pure_ (i := 19) (N := some 26) (v := ?_) (a' := ?_) mkspec_l754_25 rfl rfl (any_of HT_.out (by kernel_rfl)) (fun _ _ _ h => h) (Or.inl ⟨by rfl, ?_⟩) ?_ ?_
   rotate_left
   ·intro w'
    go_simp
    with_reducible rfl
   rotate_left
   ·simp only [Act.put, sI, sZ, sS, i64_w, i32_w]
    rfl
   refine one_ (i := 20) (N := some 27) mkspec_l754_26 rfl rfl (one_of HT_.out (by kernel_rfl)) (by decide) (fun K hK => ?_)
   refine goes_ Try.func138 (by kernel_rfl) rfl #[.slice A9000_0 ((rd_T38 l0_0 a0_1).f0).length c9000_0, .slice A1 l1.length c1, .int .i64 (wrap64 (a2 - (((rd_T38 l0_0 a0_1).f0).length : Int)))] (by rfl) rfl rfl gQ ?_
   with_reducible refine (spec_l26Fit.calls k _ _ ((rd_T38 l0_0 a0_1).f0) _ _ l1 (wrap64 (a2 - (((rd_T38 l0_0 a0_1).f0).length : Int))) true _ ?side1 ?side2 ?side3 ?side4 A6.out).mono ?_
   (case side1 => exact cQ HR179_0.out)
   (case side2 => exact HC179_0.out)
   (case side3 => exact cQ HR1.out)
   (case side4 => exact HC1.out)
   rintro e w' ⟨rfl, ⟨nd, rfl⟩⟩
   refine ⟨_, rfl, ?_⟩
   refine hK.out _ _ ⟨(cB HB.out hw177_0), (cB HB.out hw177_1), (cB HB.out hw177_2), (cB HB.out hw177_3), (cB HB.out hw179_0), (cB HB.out hw179_1), (cB HB.out hw179_2), (cB HB.out hw179_3), (cB HB.out hw180_0), (cB HB.out hw180_1), (cB HB.out hw180_2), (cB HB.out hw180_3), (cB HB.out hw182_0), (cB HB.out hw182_1), (cB HB.out hw182_2), (cB HB.out hw182_3), (cB HB.out hw183_0), (cB HB.out hw183_1), (cB HB.out hw183_2), (cB HB.out hw183_3)⟩ (fun hHeld => ?_)
   clear hK K
   refine norm_ (a' := ?_) ?_ ?_
   rotate_left
   ·show Act.put _ (some 27) _ = _
    simp only [Act.put, sI, sZ, sS, i64_w, i32_w]
    rfl
   refine pure_ (i := 21) (N := some 28) (v := ?_) (a' := ?_) mkspec_l754_27 rfl rfl (any_of HT_.out (by kernel_rfl)) (fun _ _ _ h => h) (Or.inl ⟨by rfl, ?_⟩) ?_ ?_
   rotate_left
   ·intro w'
    go_simp
    with_reducible rfl
   rotate_left
   ·simp only [Act.put, sI, sZ, sS, i64_w, i32_w]
    rfl
   refine pure_ (i := 22) (N := some 29) (v := ?_) (a' := ?_) mkspec_l754_28 rfl rfl (any_of HT_.out (by kernel_rfl)) (fun _ _ _ h => h) (Or.inl ⟨by rfl, ?_⟩) ?_ ?_
   rotate_left
   ·intro w'
    go_simp
    with_reducible rfl
   rotate_left
   ·simp only [Act.put, sI, sZ, sS, i64_w, i32_w]
    rfl
   refine pure_ (i := 23) (N := some 30) (v := ?_) (a' := ?_) mkspec_l754_29 rfl rfl (any_of HT_.out (by kernel_rfl)) (fun _ _ _ h => h) (Or.inl ⟨by rfl, ?_⟩) ?_ ?_
   rotate_left
   ·intro w'
    go_simp
    with_reducible rfl
   rotate_left
   ·simp only [Act.put, sI, sZ, sS, i64_w, i32_w]
    rfl
   refine pure_ (i := 24) (N := some 31) (v := ?_) (a' := ?_) mkspec_l754_30 rfl rfl (any_of HT_.out (by kernel_rfl)) (fun _ _ _ h => h) (Or.inl ⟨by rfl, ?_⟩) ?_ ?_
   rotate_left
   ·intro w'
    go_simp
    with_reducible rfl
   rotate_left
   ·simp only [Act.put, sI, sZ, sS, i64_w, i32_w]
    rfl
   refine pure_ (i := 25) (N := some 32) (v := ?_) (a' := ?_) mkspec_l754_31 rfl rfl (any_of HT_.out (by kernel_rfl)) (fun _ _ _ h => h) (Or.inl ⟨by rfl, ?_⟩) ?_ ?_
   rotate_left
   ·intro w'
    go_simp
    with_reducible rfl
   rotate_left
   ·simp only [Act.put, sI, sZ, sS, i64_w, i32_w]
    rfl
   refine pure_ (i := 27) (N := some 34) (v := ?_) (a' := ?_) mkspec_l754_32 rfl rfl (any_of HT_.out (by kernel_rfl)) (fun _ _ _ h => h) (Or.inl ⟨by rfl, ?_⟩) ?_ ?_
   rotate_left
   ·intro w'
    go_simp
    with_reducible rfl
   rotate_left
   ·simp only [Act.put, sI, sZ, sS, i64_w, i32_w]
    rfl
   refine pure_ (i := 28) (N := some 35) (v := ?_) (a' := ?_) mkspec_l754_34 rfl rfl (any_of HT_.out (by kernel_rfl)) (fun _ _ _ h => h) (Or.inl ⟨by rfl, ?_⟩) ?_ ?_
   rotate_left
   ·intro w'
    go_simp
    with_reducible rfl
   rotate_left
   ·simp only [Act.put, sI, sZ, sS, i64_w, i32_w]
    rfl
   refine pure_ (i := 29) (N := some 36) (v := ?_) (a' := ?_) mkspec_l754_36 rfl rfl (any_of HT_.out (by kernel_rfl)) (fun _ _ _ h => h) (Or.inl ⟨by rfl, ?_⟩) ?_ ?_
   rotate_left
   ·intro w'
    go_simp
    with_reducible rfl
   rotate_left
   ·simp only [Act.put, sI, sZ, sS, i64_w, i32_w]
    rfl
   refine pure_ (i := 30) (N := some 37) (v := ?_) (a' := ?_) mkspec_l754_38 rfl rfl (any_of HT_.out (by kernel_rfl)) (fun _ _ _ h => h) (Or.inl ⟨by rfl, ?_⟩) ?_ ?_
   rotate_left
   ·intro w'
    go_simp
    with_reducible rfl
   rotate_left
   ·simp only [Act.put, sI, sZ, sS, i64_w, i32_w]
    rfl
   refine pure_ (i := 31) (N := some 38) (v := ?_) (a' := ?_) mkspec_l754_40 rfl rfl (any_of HT_.out (by kernel_rfl)) (fun _ _ _ h => h) (Or.inl ⟨by rfl, ?_⟩) ?_ ?_
   rotate_left
   ·intro w'
    go_simp
    with_reducible rfl
   rotate_left
   ·simp only [Act.put, sI, sZ, sS, i64_w, i32_w]
    rfl
   refine take_ (i := 26) (N := some 33) (v := ?_) (a' := ?_) mkspec_l754_42 rfl rfl (take_ofW HT_.out HW_.out (by kernel_rfl)) (fun _ _ _ h => h) (Or.inl ⟨by rfl, ?_⟩) hHeld ?_ ?_
   rotate_left
   ·rintro w' ⟨s0, s1, s2, s3, s4, s5, s6, s7, s8, s9, s10, s11, s12, s13, s14, s15, s16, s17, s18, s19⟩
    go_simp
    with_reducible rfl
   rotate_left
   ·simp only [Act.put, sI, sZ, sS, i64_w, i32_w]
    rfl
   refine take_ (i := 32) (N := some 39) (v := ?_) (a' := ?_) mkspec_l754_43 rfl rfl (take_ofW HT_.out HW_.out (by kernel_rfl)) (fun _ _ _ h => h) (Or.inl ⟨by rfl, ?_⟩) hHeld ?_ ?_
   rotate_left
   ·rintro w' ⟨s0, s1, s2, s3, s4, s5, s6, s7, s8, s9, s10, s11, s12, s13, s14, s15, s16, s17, s18, s19⟩
    go_simp
    with_reducible rfl
   rotate_left
   ·simp only [Act.put, sI, sZ, sS, i64_w, i32_w]
    rfl
   refine pure_ (i := 33) (N := some 40) (v := ?_) (a' := ?_) mkspec_l754_44 rfl rfl (any_of HT_.out (by kernel_rfl)) (fun _ _ _ h => h) (Or.inl ⟨by rfl, ?_⟩) ?_ ?_
   rotate_left
   ·intro w'
    go_simp
    with_reducible rfl
   rotate_left
   ·simp only [Act.put, sI, sZ, sS, i64_w, i32_w]
    rfl
   refine pure_ (i := 34) (N := some 41) (v := ?_) (a' := ?_) mkspec_l754_45 rfl rfl (any_of HT_.out (by kernel_rfl)) (fun _ _ _ h => h) (Or.inl ⟨by rfl, ?_⟩) ?_ ?_
   rotate_left
   ·intro w'
    go_simp
    with_reducible rfl
   rotate_left
   ·simp only [Act.put, sI, sZ, sS, i64_w, i32_w]
    rfl
   refine one_ (i := 35) (N := some 42) mkspec_l754_46 rfl rfl (one_of HT_.out (by kernel_rfl)) (by decide) (fun K hK => ?_)
   refine goes_ Try.func138 (by kernel_rfl) rfl #[.slice A9000_2 ((rd_T38 l0_0 a0_1).f2).length c9000_2, .slice A1 l1.length c1, .int .i64 (wrap64 (a2 + (((rd_T38 l0_0 a0_1).f1).length : Int)))] (by rfl) rfl rfl gQ ?_
   with_reducible refine (spec_l26Fit.calls k _ _ ((rd_T38 l0_0 a0_1).f2) _ _ l1 (wrap64 (a2 + (((rd_T38 l0_0 a0_1).f1).length : Int))) t184 _ ?side1 ?side2 ?side3 ?side4 A8.out).mono ?_
   (case side1 => exact cQ HR182_2.out)
   (case side2 => exact HC182_2.out)
   (case side3 => exact cQ HR1.out)
   (case side4 => exact HC1.out)
   rintro e w' ⟨rfl, ⟨nd, rfl⟩⟩
   refine ⟨_, rfl, ?_⟩
   refine hK.out _ _ ⟨(cB HB.out hw177_0), (cB HB.out hw177_1), (cB HB.out hw177_2), (cB HB.out hw177_3), (cB HB.out hw179_0), (cB HB.out hw179_1), (cB HB.out hw179_2), (cB HB.out hw179_3), (cB HB.out hw180_0), (cB HB.out hw180_1), (cB HB.out hw180_2), (cB HB.out hw180_3), (cB HB.out hw182_0), (cB HB.out hw182_1), (cB HB.out hw182_2), (cB HB.out hw182_3), (cB HB.out hw183_0), (cB HB.out hw183_1), (cB HB.out hw183_2), (cB HB.out hw183_3)⟩ (fun hHeld => ?_)
   clear hK K
   refine norm_ (a' := ?_) ?_ ?_
   rotate_left
   ·show Act.put _ (some 42) _ = _
    simp only [Act.put, sI, sZ, sS, i64_w, i32_w]
    rfl
   refine pure_ (i := 36) (N := some 43) (v := ?_) (a' := ?_) mkspec_l754_47 rfl rfl (any_of HT_.out (by kernel_rfl)) (fun _ _ _ h => h) (Or.inl ⟨by rfl, ?_⟩) ?_ ?_
   rotate_left
   ·intro w'
    go_simp
    with_reducible rfl
   rotate_left
   ·simp only [Act.put, sI, sZ, sS, i64_w, i32_w]
    rfl
   refine pure_ (i := 37) (N := some 6) (v := ?_) (a' := ?_) mkspec_l754_48 rfl rfl (any_of HT_.out (by kernel_rfl)) (fun _ _ _ h => h) (Or.inl ⟨by rfl, ?_⟩) ?_ ?_
   rotate_left
   ·intro w'
    go_simp
    with_reducible rfl
   rotate_left
   ·simp only [Act.put, sI, sZ, sS, i64_w, i32_w]
    rfl
   refine done_ (done_of HT_.out (by kernel_rfl)) ?_
   try go_wp2
   go_ret
   exact ⟨eQ, bQ⟩
  ·replace c7 := Bool.eq_false_iff.mpr c7
   subst c7
   have H1 : (some false) = some r := by rw [if_neg (show ¬ (false = true) by decide)] at H; exact H
   clear H
   have H := H1
   clear H1
   obtain rfl := Option.some.inj H
   go_enter Try.func74, Try.ntmps74
   try go_wp2
   have n0_ := aM (below_drew1 HB.out)
   clear HB
   have HB := n0_
   clear n0_
   have hx177_0 := HX9000_0.out
   have hx177_1 := HX9000_1.out
   have hx177_2 := HX9000_2.out
   have hx177_3 := HX9000_3.out
   have hw177_3 := hx177_3
   have hw177_2 := hx177_2
   have hw177_1 := hx177_1
   have hw177_0 := hx177_0
   replace hx177_0 := cB HB.out hx177_0
   replace hx177_1 := cB HB.out hx177_1
   replace hx177_2 := cB HB.out hx177_2
   replace hx177_3 := cB HB.out hx177_3
   have HR177_0 := HR9000_0
   have HC177_0 := HC9000_0
   have HR177_1 := HR9000_1
   have HC177_1 := HC9000_1
   have HR177_2 := HR9000_2
   have HC177_2 := HC9000_2
   have HR177_3 := HR9000_3
   have HC177_3 := HC9000_3
   have hx179_0 := HX9000_0.out
   have hx179_1 := HX9000_1.out
   have hx179_2 := HX9000_2.out
   have hx179_3 := HX9000_3.out
   have hw179_3 := hx179_3
   have hw179_2 := hx179_2
   have hw179_1 := hx179_1
   have hw179_0 := hx179_0
   replace hx179_0 := cB HB.out hx179_0
   replace hx179_1 := cB HB.out hx179_1
   replace hx179_2 := cB HB.out hx179_2
   replace hx179_3 := cB HB.out hx179_3
   have HR179_0 := HR9000_0
   have HC179_0 := HC9000_0
   have HR179_1 := HR9000_1
   have HC179_1 := HC9000_1
   have HR179_2 := HR9000_2
   have HC179_2 := HC9000_2
   have HR179_3 := HR9000_3
   have HC179_3 := HC9000_3
   have hx180_0 := HX9000_0.out
   have hx180_1 := HX9000_1.out
   have hx180_2 := HX9000_2.out
   have hx180_3 := HX9000_3.out
   have hw180_3 := hx180_3
   have hw180_2 := hx180_2
   have hw180_1 := hx180_1
   have hw180_0 := hx180_0
   replace hx180_0 := cB HB.out hx180_0
   replace hx180_1 := cB HB.out hx180_1
   replace hx180_2 := cB HB.out hx180_2
   replace hx180_3 := cB HB.out hx180_3
   have HR180_0 := HR9000_0
   have HC180_0 := HC9000_0
   have HR180_1 := HR9000_1
   have HC180_1 := HC9000_1
   have HR180_2 := HR9000_2
   have HC180_2 := HC9000_2
   have HR180_3 := HR9000_3
   have HC180_3 := HC9000_3
   refine start_ (n := 38) (S := fun w' => w'.cell? (ad0_.add ((a0_1).toNat * 4)) = some (.slice A9000_0 ((rd_T38 l0_0 a0_1).f0).length c9000_0) ∧ w'.cell? ⟨(ad0_.add ((a0_1).toNat * 4)).block, (ad0_.add ((a0_1).toNat * 4)).off + 1, none⟩ = some (.slice A9000_1 ((rd_T38 l0_0 a0_1).f1).length c9000_1) ∧ w'.cell? ⟨(ad0_.add ((a0_1).toNat * 4)).block, (ad0_.add ((a0_1).toNat * 4)).off + 2, none⟩ = some (.slice A9000_2 ((rd_T38 l0_0 a0_1).f2).length c9000_2) ∧ w'.cell? ⟨(ad0_.add ((a0_1).toNat * 4)).block, (ad0_.add ((a0_1).toNat * 4)).off + 3, none⟩ = some (.slice A9000_3 ((rd_T38 l0_0 a0_1).f3).length c9000_3) ∧ w'.cell? (ad0_.add ((a0_1).toNat * 4)) = some (.slice A9000_0 ((rd_T38 l0_0 a0_1).f0).length c9000_0) ∧ w'.cell? ⟨(ad0_.add ((a0_1).toNat * 4)).block, (ad0_.add ((a0_1).toNat * 4)).off + 1, none⟩ = some (.slice A9000_1 ((rd_T38 l0_0 a0_1).f1).length c9000_1) ∧ w'.cell? ⟨(ad0_.add ((a0_1).toNat * 4)).block, (ad0_.add ((a0_1).toNat * 4)).off + 2, none⟩ = some (.slice A9000_2 ((rd_T38 l0_0 a0_1).f2).length c9000_2) ∧ w'.cell? ⟨(ad0_.add ((a0_1).toNat * 4)).block, (ad0_.add ((a0_1).toNat * 4)).off + 3, none⟩ = some (.slice A9000_3 ((rd_T38 l0_0 a0_1).f3).length c9000_3) ∧ w'.cell? (ad0_.add ((a0_1).toNat * 4)) = some (.slice A9000_0 ((rd_T38 l0_0 a0_1).f0).length c9000_0) ∧ w'.cell? ⟨(ad0_.add ((a0_1).toNat * 4)).block, (ad0_.add ((a0_1).toNat * 4)).off + 1, none⟩ = some (.slice A9000_1 ((rd_T38 l0_0 a0_1).f1).length c9000_1) ∧ w'.cell? ⟨(ad0_.add ((a0_1).toNat * 4)).block, (ad0_.add ((a0_1).toNat * 4)).off + 2, none⟩ = some (.slice A9000_2 ((rd_T38 l0_0 a0_1).f2).length c9000_2) ∧ w'.cell? ⟨(ad0_.add ((a0_1).toNat * 4)).block, (ad0_.add ((a0_1).toNat * 4)).off + 3, none⟩ = some (.slice A9000_3 ((rd_T38 l0_0 a0_1).f3).length c9000_3)) (ds := []) mkspec_l754_0 (by kernel_rfl) rfl rfl ⟨(cB HB.out hw177_0), (cB HB.out hw177_1), (cB HB.out hw177_2), (cB HB.out hw177_3), (cB HB.out hw179_0), (cB HB.out hw179_1), (cB HB.out hw179_2), (cB HB.out hw179_3), (cB HB.out hw180_0), (cB HB.out hw180_1), (cB HB.out hw180_2), (cB HB.out hw180_3)⟩ (fun hHeld => ?_); refine with_tabW spec_l26Matches_at.tab1 spec_l26Matches_at.bits1 (fun HT_ HW_ => ?_)
   generalize w.drew = w10 at HB HR177_0 HR177_1 HR177_2 HR177_3 HR179_0 HR179_1 HR179_2 HR179_3 HR180_0 HR180_1 HR180_2 HR180_3 hx177_0 hx177_1 hx177_2 hx177_3 hx179_0 hx179_1 hx179_2 hx179_3 hx180_0 hx180_1 hx180_2 hx180_3 hHeld ⊢
   refine pure_ (i := 0) (N := some 7) (v := ?_) (a' := ?_) mkspec_l754_1 rfl rfl (any_of HT_.out (by kernel_rfl)) (fun _ _ _ h => h) (Or.inl ⟨by rfl, ?_⟩) ?_ ?_
   rotate_left
   ·intro w'
    go_simp
    with_reducible rfl
   rotate_left
   ·simp only [Act.put, sI, sZ, sS, i64_w, i32_w]
    rfl
   refine pure_ (i := 1) (N := some 8) (v := ?_) (a' := ?_) mkspec_l754_2 rfl rfl (any_of HT_.out (by kernel_rfl)) (fun _ _ _ h => h) (Or.inl ⟨by rfl, ?_⟩) ?_ ?_
   rotate_left
   ·intro w'
    go_simp
    with_reducible rfl
   rotate_left
   ·simp only [Act.put, sI, sZ, sS, i64_w, i32_w]
    rfl
   refine pure_ (i := 2) (N := some 9) (v := ?_) (a' := ?_) mkspec_l754_3 rfl rfl (any_of HT_.out (by kernel_rfl)) (fun _ _ _ h => h) (Or.inl ⟨by rfl, ?_⟩) ?_ ?_
   rotate_left
   ·intro w'
    go_simp
    with_reducible rfl
   rotate_left
   ·simp only [Act.put, sI, sZ, sS, i64_w, i32_w]
    rfl
   refine pure_ (i := 4) (N := some 11) (v := ?_) (a' := ?_) mkspec_l754_4 rfl rfl (any_of HT_.out (by kernel_rfl)) (fun _ _ _ h => h) (Or.inl ⟨by rfl, ?_⟩) ?_ ?_
   rotate_left
   ·intro w'
    go_simp
    with_reducible rfl
   rotate_left
   ·simp only [Act.put, sI, sZ, sS, i64_w, i32_w]
    rfl
   refine pure_ (i := 5) (N := some 12) (v := ?_) (a' := ?_) mkspec_l754_5 rfl rfl (any_of HT_.out (by kernel_rfl)) (fun _ _ _ h => h) (Or.inl ⟨by rfl, ?_⟩) ?_ ?_
   rotate_left
   ·intro w'
    go_simp
    with_reducible rfl
   rotate_left
   ·simp only [Act.put, sI, sZ, sS, i64_w, i32_w]
    rfl
   refine take_ (i := 3) (N := some 10) (v := ?_) (a' := ?_) mkspec_l754_6 rfl rfl (take_ofW HT_.out HW_.out (by kernel_rfl)) (fun _ _ _ h => h) (Or.inl ⟨by rfl, ?_⟩) hHeld ?_ ?_
   rotate_left
   ·rintro w' ⟨s0, s1, s2, s3, s4, s5, s6, s7, s8, s9, s10, s11⟩
    go_simp
    with_reducible rfl
   rotate_left
   ·simp only [Act.put, sI, sZ, sS, i64_w, i32_w]
    rfl
   refine one_ (i := 6) (N := some 13) mkspec_l754_7 rfl rfl (one_of HT_.out (by kernel_rfl)) (by decide) (fun K hK => ?_)
   refine goes_ Try.func138 (by kernel_rfl) rfl #[.slice A9000_1 ((rd_T38 l0_0 a0_1).f1).length c9000_1, .slice A1 l1.length c1, .int .i64 a2] (by rfl) rfl rfl gQ ?_
   with_reducible refine (spec_l26Fit.calls k _ _ ((rd_T38 l0_0 a0_1).f1) _ _ l1 a2 true _ ?side1 ?side2 ?side3 ?side4 A4.out).mono ?_
   (case side1 => exact cQ HR177_1.out)
   (case side2 => exact HC177_1.out)
   (case side3 => exact cQ HR1.out)
   (case side4 => exact HC1.out)
   rintro e w' ⟨rfl, ⟨nd, rfl⟩⟩
   refine ⟨_, rfl, ?_⟩
   refine hK.out _ _ ⟨(cB HB.out hw177_0), (cB HB.out hw177_1), (cB HB.out hw177_2), (cB HB.out hw177_3), (cB HB.out hw179_0), (cB HB.out hw179_1), (cB HB.out hw179_2), (cB HB.out hw179_3), (cB HB.out hw180_0), (cB HB.out hw180_1), (cB HB.out hw180_2), (cB HB.out hw180_3)⟩ (fun hHeld => ?_)
   clear hK K
   refine norm_ (a' := ?_) ?_ ?_
   rotate_left
   ·show Act.put _ (some 13) _ = _
    simp only [Act.put, sI, sZ, sS, i64_w, i32_w]
    rfl
   refine pure_ (i := 7) (N := some 14) (v := ?_) (a' := ?_) mkspec_l754_8 rfl rfl (any_of HT_.out (by kernel_rfl)) (fun _ _ _ h => h) (Or.inl ⟨by rfl, ?_⟩) ?_ ?_
   rotate_left
   ·intro w'
    go_simp
    with_reducible rfl
   rotate_left
   ·simp only [Act.put, sI, sZ, sS, i64_w, i32_w]
    rfl
   refine pure_ (i := 8) (N := some 15) (v := ?_) (a' := ?_) mkspec_l754_9 rfl rfl (any_of HT_.out (by kernel_rfl)) (fun _ _ _ h => h) (Or.inl ⟨by rfl, ?_⟩) ?_ ?_
   rotate_left
   ·intro w'
    go_simp
    with_reducible rfl
   rotate_left
   ·simp only [Act.put, sI, sZ, sS, i64_w, i32_w]
    rfl
   refine pure_ (i := 9) (N := some 16) (v := ?_) (a' := ?_) mkspec_l754_10 rfl rfl (any_of HT_.out (by kernel_rfl)) (fun _ _ _ h => h) (Or.inl ⟨by rfl, ?_⟩) ?_ ?_
   rotate_left
   ·intro w'
    go_simp
    with_reducible rfl
   rotate_left
   ·simp only [Act.put, sI, sZ, sS, i64_w, i32_w]
    rfl
   refine pure_ (i := 10) (N := some 17) (v := ?_) (a' := ?_) mkspec_l754_11 rfl rfl (any_of HT_.out (by kernel_rfl)) (fun _ _ _ h => h) (Or.inl ⟨by rfl, ?_⟩) ?_ ?_
   rotate_left
   ·intro w'
    go_simp
    with_reducible rfl
   rotate_left
   ·simp only [Act.put, sI, sZ, sS, i64_w, i32_w]
    rfl
   refine pure_ (i := 12) (N := some 19) (v := ?_) (a' := ?_) mkspec_l754_12 rfl rfl (any_of HT_.out (by kernel_rfl)) (fun _ _ _ h => h) (Or.inl ⟨by rfl, ?_⟩) ?_ ?_
   rotate_left
   ·intro w'
    go_simp
    with_reducible rfl
   rotate_left
   ·simp only [Act.put, sI, sZ, sS, i64_w, i32_w]
    rfl
   refine pure_ (i := 13) (N := some 20) (v := ?_) (a' := ?_) mkspec_l754_14 rfl rfl (any_of HT_.out (by kernel_rfl)) (fun _ _ _ h => h) (Or.inl ⟨by rfl, ?_⟩) ?_ ?_
   rotate_left
   ·intro w'
    go_simp
    with_reducible rfl
   rotate_left
   ·simp only [Act.put, sI, sZ, sS, i64_w, i32_w]
    rfl
   refine pure_ (i := 14) (N := some 21) (v := ?_) (a' := ?_) mkspec_l754_16 rfl rfl (any_of HT_.out (by kernel_rfl)) (fun _ _ _ h => h) (Or.inl ⟨by rfl, ?_⟩) ?_ ?_
   rotate_left
   ·intro w'
    go_simp
    with_reducible rfl
   rotate_left
   ·simp only [Act.put, sI, sZ, sS, i64_w, i32_w]
    rfl
   refine pure_ (i := 15) (N := some 22) (v := ?_) (a' := ?_) mkspec_l754_18 rfl rfl (any_of HT_.out (by kernel_rfl)) (fun _ _ _ h => h) (Or.inl ⟨by rfl, ?_⟩) ?_ ?_
   rotate_left
   ·intro w'
    go_simp
    with_reducible rfl
   rotate_left
   ·simp only [Act.put, sI, sZ, sS, i64_w, i32_w]
    rfl
   refine pure_ (i := 16) (N := some 23) (v := ?_) (a' := ?_) mkspec_l754_20 rfl rfl (any_of HT_.out (by kernel_rfl)) (fun _ _ _ h => h) (Or.inl ⟨by rfl, ?_⟩) ?_ ?_
   rotate_left
   ·intro w'
    go_simp
    with_reducible rfl
   rotate_left
   ·simp only [Act.put, sI, sZ, sS, i64_w, i32_w]
    rfl
   refine take_ (i := 11) (N := some 18) (v := ?_) (a' := ?_) mkspec_l754_22 rfl rfl (take_ofW HT_.out HW_.out (by kernel_rfl)) (fun _ _ _ h => h) (Or.inl ⟨by rfl, ?_⟩) hHeld ?_ ?_
   rotate_left
   ·rintro w' ⟨s0, s1, s2, s3, s4, s5, s6, s7, s8, s9, s10, s11⟩
    go_simp
    with_reducible rfl
   rotate_left
   ·simp only [Act.put, sI, sZ, sS, i64_w, i32_w]
    rfl
   refine take_ (i := 17) (N := some 24) (v := ?_) (a' := ?_) mkspec_l754_23 rfl rfl (take_ofW HT_.out HW_.out (by kernel_rfl)) (fun _ _ _ h => h) (Or.inl ⟨by rfl, ?_⟩) hHeld ?_ ?_
   rotate_left
   ·rintro w' ⟨s0, s1, s2, s3, s4, s5, s6, s7, s8, s9, s10, s11⟩
    go_simp
    with_reducible rfl
   rotate_left
   ·simp only [Act.put, sI, sZ, sS, i64_w, i32_w]
    rfl
   refine pure_ (i := 18) (N := some 25) (v := ?_) (a' := ?_) mkspec_l754_24 rfl rfl (any_of HT_.out (by kernel_rfl)) (fun _ _ _ h => h) (Or.inl ⟨by rfl, ?_⟩) ?_ ?_
   rotate_left
   ·intro w'
    go_simp
    with_reducible rfl
   rotate_left
   ·simp only [Act.put, sI, sZ, sS, i64_w, i32_w]
    rfl
   refine pure_ (i := 19) (N := some 26) (v := ?_) (a' := ?_) mkspec_l754_25 rfl rfl (any_of HT_.out (by kernel_rfl)) (fun _ _ _ h => h) (Or.inl ⟨by rfl, ?_⟩) ?_ ?_
   rotate_left
   ·intro w'
    go_simp
    with_reducible rfl
   rotate_left
   ·simp only [Act.put, sI, sZ, sS, i64_w, i32_w]
    rfl
   refine one_ (i := 20) (N := some 27) mkspec_l754_26 rfl rfl (one_of HT_.out (by kernel_rfl)) (by decide) (fun K hK => ?_)
   refine goes_ Try.func138 (by kernel_rfl) rfl #[.slice A9000_0 ((rd_T38 l0_0 a0_1).f0).length c9000_0, .slice A1 l1.length c1, .int .i64 (wrap64 (a2 - (((rd_T38 l0_0 a0_1).f0).length : Int)))] (by rfl) rfl rfl gQ ?_
   with_reducible refine (spec_l26Fit.calls k _ _ ((rd_T38 l0_0 a0_1).f0) _ _ l1 (wrap64 (a2 - (((rd_T38 l0_0 a0_1).f0).length : Int))) false _ ?side1 ?side2 ?side3 ?side4 A6.out).mono ?_
   (case side1 => exact cQ HR179_0.out)
   (case side2 => exact HC179_0.out)
   (case side3 => exact cQ HR1.out)
   (case side4 => exact HC1.out)
   rintro e w' ⟨rfl, ⟨nd, rfl⟩⟩
   refine ⟨_, rfl, ?_⟩
   refine hK.out _ _ ⟨(cB HB.out hw177_0), (cB HB.out hw177_1), (cB HB.out hw177_2), (cB HB.out hw177_3), (cB HB.out hw179_0), (cB HB.out hw179_1), (cB HB.out hw179_2), (cB HB.out hw179_3), (cB HB.out hw180_0), (cB HB.out hw180_1), (cB HB.out hw180_2), (cB HB.out hw180_3)⟩ (fun hHeld => ?_)
   clear hK K
   refine norm_ (a' := ?_) ?_ ?_
   rotate_left
   ·show Act.put _ (some 27) _ = _
    simp only [Act.put, sI, sZ, sS, i64_w, i32_w]
    rfl
   refine pure_ (i := 21) (N := some 28) (v := ?_) (a' := ?_) mkspec_l754_27 rfl rfl (any_of HT_.out (by kernel_rfl)) (fun _ _ _ h => h) (Or.inl ⟨by rfl, ?_⟩) ?_ ?_
   rotate_left
   ·intro w'
    go_simp
    with_reducible rfl
   rotate_left
   ·simp only [Act.put, sI, sZ, sS, i64_w, i32_w]
    rfl
   refine pure_ (i := 22) (N := some 29) (v := ?_) (a' := ?_) mkspec_l754_28 rfl rfl (any_of HT_.out (by kernel_rfl)) (fun _ _ _ h => h) (Or.inl ⟨by rfl, ?_⟩) ?_ ?_
   rotate_left
   ·intro w'
    go_simp
    with_reducible rfl
   rotate_left
   ·simp only [Act.put, sI, sZ, sS, i64_w, i32_w]
    rfl
   refine pure_ (i := 23) (N := some 30) (v := undef) (a' := ?_) mkspec_l754_29 rfl rfl (any_of HT_.out (by kernel_rfl)) (fun _ _ _ h => h) (Or.inr ⟨by rfl, rfl⟩) ?_ ?_
   rotate_left
   ·simp only [Act.put, sI, sZ, sS, i64_w, i32_w]
    rfl
   refine pure_ (i := 24) (N := some 31) (v := undef) (a' := ?_) mkspec_l754_30 rfl rfl (any_of HT_.out (by kernel_rfl)) (fun _ _ _ h => h) (Or.inr ⟨by rfl, rfl⟩) ?_ ?_
   rotate_left
   ·simp only [Act.put, sI, sZ, sS, i64_w, i32_w]
    rfl
   refine pure_ (i := 25) (N := some 32) (v := undef) (a' := ?_) mkspec_l754_31 rfl rfl (any_of HT_.out (by kernel_rfl)) (fun _ _ _ h => h) (Or.inr ⟨by rfl, rfl⟩) ?_ ?_
   rotate_left
   ·simp only [Act.put, sI, sZ, sS, i64_w, i32_w]
    rfl
   refine pure_ (i := 26) (N := some 33) (v := undef) (a' := ?_) mkspec_l754_33 rfl rfl (any_of HT_.out (by kernel_rfl)) (fun _ _ _ h => h) (Or.inr ⟨by rfl, rfl⟩) ?_ ?_
   rotate_left
   ·simp only [Act.put, sI, sZ, sS, i64_w, i32_w]
    rfl
   refine pure_ (i := 27) (N := some 34) (v := undef) (a' := ?_) mkspec_l754_35 rfl rfl (any_of HT_.out (by kernel_rfl)) (fun _ _ _ h => h) (Or.inr ⟨by rfl, rfl⟩) ?_ ?_
   rotate_left
   ·simp only [Act.put, sI, sZ, sS, i64_w, i32_w]
    rfl
   refine pure_ (i := 28) (N := some 35) (v := undef) (a' := ?_) mkspec_l754_37 rfl rfl (any_of HT_.out (by kernel_rfl)) (fun _ _ _ h => h) (Or.inr ⟨by rfl, rfl⟩) ?_ ?_
   rotate_left
   ·simp only [Act.put, sI, sZ, sS, i64_w, i32_w]
    rfl
   refine pure_ (i := 29) (N := some 36) (v := undef) (a' := ?_) mkspec_l754_39 rfl rfl (any_of HT_.out (by kernel_rfl)) (fun _ _ _ h => h) (Or.inr ⟨by rfl, rfl⟩) ?_ ?_
   rotate_left
   ·simp only [Act.put, sI, sZ, sS, i64_w, i32_w]
    rfl
   refine pure_ (i := 30) (N := some 37) (v := undef) (a' := ?_) mkspec_l754_41 rfl rfl (any_of HT_.out (by kernel_rfl)) (fun _ _ _ h => h) (Or.inr ⟨by rfl, rfl⟩) ?_ ?_
   rotate_left
   ·simp only [Act.put, sI, sZ, sS, i64_w, i32_w]
    rfl
   refine pure_ (i := 31) (N := some 38) (v := undef) (a' := ?_) mkspec_l754_42 rfl rfl (any_of HT_.out (by kernel_rfl)) (fun _ _ _ h => h) (Or.inr ⟨by rfl, rfl⟩) ?_ ?_
   rotate_left
   ·simp only [Act.put, sI, sZ, sS, i64_w, i32_w]
    rfl
   refine pure_ (i := 32) (N := some 39) (v := undef) (a' := ?_) mkspec_l754_43 rfl rfl (any_of HT_.out (by kernel_rfl)) (fun _ _ _ h => h) (Or.inr ⟨by rfl, rfl⟩) ?_ ?_
   rotate_left
   ·simp only [Act.put, sI, sZ, sS, i64_w, i32_w]
    rfl
   refine pure_ (i := 33) (N := some 40) (v := undef) (a' := ?_) mkspec_l754_44 rfl rfl (any_of HT_.out (by kernel_rfl)) (fun _ _ _ h => h) (Or.inr ⟨by rfl, rfl⟩) ?_ ?_
   rotate_left
   ·simp only [Act.put, sI, sZ, sS, i64_w, i32_w]
    rfl
   refine pure_ (i := 34) (N := some 41) (v := undef) (a' := ?_) mkspec_l754_45 rfl rfl (any_of HT_.out (by kernel_rfl)) (fun _ _ _ h => h) (Or.inr ⟨by rfl, rfl⟩) ?_ ?_
   rotate_left
   ·simp only [Act.put, sI, sZ, sS, i64_w, i32_w]
    rfl
   refine pure_ (i := 35) (N := some 42) (v := undef) (a' := ?_) mkspec_l754_46 rfl rfl (any_of HT_.out (by kernel_rfl)) (fun _ _ _ h => h) (Or.inr ⟨by rfl, rfl⟩) ?_ ?_
   rotate_left
   ·simp only [Act.put, sI, sZ, sS, i64_w, i32_w]
    rfl
   refine pure_ (i := 36) (N := some 43) (v := ?_) (a' := ?_) mkspec_l754_47 rfl rfl (any_of HT_.out (by kernel_rfl)) (fun _ _ _ h => h) (Or.inl ⟨by rfl, ?_⟩) ?_ ?_
   rotate_left
   ·intro w'
    go_simp
    with_reducible rfl
   rotate_left
   ·simp only [Act.put, sI, sZ, sS, i64_w, i32_w]
    rfl
   refine pure_ (i := 37) (N := some 6) (v := ?_) (a' := ?_) mkspec_l754_48 rfl rfl (any_of HT_.out (by kernel_rfl)) (fun _ _ _ h => h) (Or.inl ⟨by rfl, ?_⟩) ?_ ?_
   rotate_left
   ·intro w'
    go_simp
    with_reducible rfl
   rotate_left
   ·simp only [Act.put, sI, sZ, sS, i64_w, i32_w]
    rfl
   refine done_ (done_of HT_.out (by kernel_rfl)) ?_
   try go_wp2
   go_ret
   exact ⟨eQ, bQ⟩
 ·replace c5 := Bool.eq_false_iff.mpr c5
  subst c5
  have H1 : (some false) = some r := by rw [if_neg (show ¬ (false = true) by decide)] at H; exact H
  clear H
  have H := H1
  clear H1
  obtain rfl := Option.some.inj H
  go_enter Try.func74, Try.ntmps74
  try go_wp2
  have n0_ := aM (below_drew1 HB.out)
  clear HB
  have HB := n0_
  clear n0_
  have hx177_0 := HX9000_0.out
  have hx177_1 := HX9000_1.out
  have hx177_2 := HX9000_2.out
  have hx177_3 := HX9000_3.out
  have hw177_3 := hx177_3
  have hw177_2 := hx177_2
  have hw177_1 := hx177_1
  have hw177_0 := hx177_0
  replace hx177_0 := cB HB.out hx177_0
  replace hx177_1 := cB HB.out hx177_1
  replace hx177_2 := cB HB.out hx177_2
  replace hx177_3 := cB HB.out hx177_3
  have HR177_0 := HR9000_0
  have HC177_0 := HC9000_0
  have HR177_1 := HR9000_1
  have HC177_1 := HC9000_1
  have HR177_2 := HR9000_2
  have HC177_2 := HC9000_2
  have HR177_3 := HR9000_3
  have HC177_3 := HC9000_3
  refine start_ (n := 38) (S := fun w' => w'.cell? (ad0_.add ((a0_1).toNat * 4)) = some (.slice A9000_0 ((rd_T38 l0_0 a0_1).f0).length c9000_0) ∧ w'.cell? ⟨(ad0_.add ((a0_1).toNat * 4)).block, (ad0_.add ((a0_1).toNat * 4)).off + 1, none⟩ = some (.slice A9000_1 ((rd_T38 l0_0 a0_1).f1).length c9000_1) ∧ w'.cell? ⟨(ad0_.add ((a0_1).toNat * 4)).block, (ad0_.add ((a0_1).toNat * 4)).off + 2, none⟩ = some (.slice A9000_2 ((rd_T38 l0_0 a0_1).f2).length c9000_2) ∧ w'.cell? ⟨(ad0_.add ((a0_1).toNat * 4)).block, (ad0_.add ((a0_1).toNat * 4)).off + 3, none⟩ = some (.slice A9000_3 ((rd_T38 l0_0 a0_1).f3).length c9000_3)) (ds := []) mkspec_l754_0 (by kernel_rfl) rfl rfl ⟨(cB HB.out hw177_0), (cB HB.out hw177_1), (cB HB.out hw177_2), (cB HB.out hw177_3)⟩ (fun hHeld => ?_); refine with_tabW spec_l26Matches_at.tab1 spec_l26Matches_at.bits1 (fun HT_ HW_ => ?_)
  generalize w.drew = w11 at HB HR177_0 HR177_1 HR177_2 HR177_3 hx177_0 hx177_1 hx177_2 hx177_3 hHeld ⊢
  refine pure_ (i := 0) (N := some 7) (v := ?_) (a' := ?_) mkspec_l754_1 rfl rfl (any_of HT_.out (by kernel_rfl)) (fun _ _ _ h => h) (Or.inl ⟨by rfl, ?_⟩) ?_ ?_
  rotate_left
  ·intro w'
   go_simp
   with_reducible rfl
  rotate_left
  ·simp only [Act.put, sI, sZ, sS, i64_w, i32_w]
   rfl
  refine pure_ (i := 1) (N := some 8) (v := ?_) (a' := ?_) mkspec_l754_2 rfl rfl (any_of HT_.out (by kernel_rfl)) (fun _ _ _ h => h) (Or.inl ⟨by rfl, ?_⟩) ?_ ?_
  rotate_left
  ·intro w'
   go_simp
   with_reducible rfl
  rotate_left
  ·simp only [Act.put, sI, sZ, sS, i64_w, i32_w]
   rfl
  refine pure_ (i := 2) (N := some 9) (v := ?_) (a' := ?_) mkspec_l754_3 rfl rfl (any_of HT_.out (by kernel_rfl)) (fun _ _ _ h => h) (Or.inl ⟨by rfl, ?_⟩) ?_ ?_
  rotate_left
  ·intro w'
   go_simp
   with_reducible rfl
  rotate_left
  ·simp only [Act.put, sI, sZ, sS, i64_w, i32_w]
   rfl
  refine pure_ (i := 4) (N := some 11) (v := ?_) (a' := ?_) mkspec_l754_4 rfl rfl (any_of HT_.out (by kernel_rfl)) (fun _ _ _ h => h) (Or.inl ⟨by rfl, ?_⟩) ?_ ?_
  rotate_left
  ·intro w'
   go_simp
   with_reducible rfl
  rotate_left
  ·simp only [Act.put, sI, sZ, sS, i64_w, i32_w]
   rfl
  refine pure_ (i := 5) (N := some 12) (v := ?_) (a' := ?_) mkspec_l754_5 rfl rfl (any_of HT_.out (by kernel_rfl)) (fun _ _ _ h => h) (Or.inl ⟨by rfl, ?_⟩) ?_ ?_
  rotate_left
  ·intro w'
   go_simp
   with_reducible rfl
  rotate_left
  ·simp only [Act.put, sI, sZ, sS, i64_w, i32_w]
   rfl
  refine take_ (i := 3) (N := some 10) (v := ?_) (a' := ?_) mkspec_l754_6 rfl rfl (take_ofW HT_.out HW_.out (by kernel_rfl)) (fun _ _ _ h => h) (Or.inl ⟨by rfl, ?_⟩) hHeld ?_ ?_
  rotate_left
  ·rintro w' ⟨s0, s1, s2, s3⟩
   go_simp
   with_reducible rfl
  rotate_left
  ·simp only [Act.put, sI, sZ, sS, i64_w, i32_w]
   rfl
  refine one_ (i := 6) (N := some 13) mkspec_l754_7 rfl rfl (one_of HT_.out (by kernel_rfl)) (by decide) (fun K hK => ?_)
  refine goes_ Try.func138 (by kernel_rfl) rfl #[.slice A9000_1 ((rd_T38 l0_0 a0_1).f1).length c9000_1, .slice A1 l1.length c1, .int .i64 a2] (by rfl) rfl rfl gQ ?_
  with_reducible refine (spec_l26Fit.calls k _ _ ((rd_T38 l0_0 a0_1).f1) _ _ l1 a2 false _ ?side1 ?side2 ?side3 ?side4 A4.out).mono ?_
  (case side1 => exact cQ HR177_1.out)
  (case side2 => exact HC177_1.out)
  (case side3 => exact cQ HR1.out)
  (case side4 => exact HC1.out)
  rintro e w' ⟨rfl, ⟨nd, rfl⟩⟩
  refine ⟨_, rfl, ?_⟩
  refine hK.out _ _ ⟨(cB HB.out hw177_0), (cB HB.out hw177_1), (cB HB.out hw177_2), (cB HB.out hw177_3)⟩ (fun hHeld => ?_)
  clear hK K
  refine norm_ (a' := ?_) ?_ ?_
  rotate_left
  ·show Act.put _ (some 13) _ = _
   simp only [Act.put, sI, sZ, sS, i64_w, i32_w]
   rfl
  refine pure_ (i := 7) (N := some 14) (v := ?_) (a' := ?_) mkspec_l754_8 rfl rfl (any_of HT_.out (by kernel_rfl)) (fun _ _ _ h => h) (Or.inl ⟨by rfl, ?_⟩) ?_ ?_
  rotate_left
  ·intro w'
   go_simp
   with_reducible rfl
  rotate_left
  ·simp only [Act.put, sI, sZ, sS, i64_w, i32_w]
   rfl
  refine pure_ (i := 8) (N := some 15) (v := undef) (a' := ?_) mkspec_l754_9 rfl rfl (any_of HT_.out (by kernel_rfl)) (fun _ _ _ h => h) (Or.inr ⟨by rfl, rfl⟩) ?_ ?_
  rotate_left
  ·simp only [Act.put, sI, sZ, sS, i64_w, i32_w]
   rfl
  refine pure_ (i := 9) (N := some 16) (v := undef) (a' := ?_) mkspec_l754_10 rfl rfl (any_of HT_.out (by kernel_rfl)) (fun _ _ _ h => h) (Or.inr ⟨by rfl, rfl⟩) ?_ ?_
  rotate_left
  ·simp only [Act.put, sI, sZ, sS, i64_w, i32_w]
   rfl
  refine pure_ (i := 10) (N := some 17) (v := undef) (a' := ?_) mkspec_l754_11 rfl rfl (any_of HT_.out (by kernel_rfl)) (fun _ _ _ h => h) (Or.inr ⟨by rfl, rfl⟩) ?_ ?_
  rotate_left
  ·simp only [Act.put, sI, sZ, sS, i64_w, i32_w]
   rfl
  refine pure_ (i := 11) (N := some 18) (v := undef) (a' := ?_) mkspec_l754_13 rfl rfl (any_of HT_.out (by kernel_rfl)) (fun _ _ _ h => h) (Or.inr ⟨by rfl, rfl⟩) ?_ ?_
  rotate_left
  ·simp only [Act.put, sI, sZ, sS, i64_w, i32_w]
   rfl
  refine pure_ (i := 12) (N := some 19) (v := undef) (a' := ?_) mkspec_l754_15 rfl rfl (any_of HT_.out (by kernel_rfl)) (fun _ _ _ h => h) (Or.inr ⟨by rfl, rfl⟩) ?_ ?_
  rotate_left
  ·simp only [Act.put, sI, sZ, sS, i64_w, i32_w]
   rfl
  refine pure_ (i := 13) (N := some 20) (v := undef) (a' := ?_) mkspec_l754_17 rfl rfl (any_of HT_.out (by kernel_rfl)) (fun _ _ _ h => h) (Or.inr ⟨by rfl, rfl⟩) ?_ ?_
  rotate_left
  ·simp only [Act.put, sI, sZ, sS, i64_w, i32_w]
   rfl
  refine pure_ (i := 14) (N := some 21) (v := undef) (a' := ?_) mkspec_l754_19 rfl rfl (any_of HT_.out (by kernel_rfl)) (fun _ _ _ h => h) (Or.inr ⟨by rfl, rfl⟩) ?_ ?_
  rotate_left
  ·simp only [Act.put, sI, sZ, sS, i64_w, i32_w]
   rfl
  refine pure_ (i := 15) (N := some 22) (v := undef) (a' := ?_) mkspec_l754_21 rfl rfl (any_of HT_.out (by kernel_rfl)) (fun _ _ _ h => h) (Or.inr ⟨by rfl, rfl⟩) ?_ ?_
  rotate_left
  ·simp only [Act.put, sI, sZ, sS, i64_w, i32_w]
   rfl
  refine pure_ (i := 16) (N := some 23) (v := undef) (a' := ?_) mkspec_l754_22 rfl rfl (any_of HT_.out (by kernel_rfl)) (fun _ _ _ h => h) (Or.inr ⟨by rfl, rfl⟩) ?_ ?_
  rotate_left
  ·simp only [Act.put, sI, sZ, sS, i64_w, i32_w]
   rfl
  refine pure_ (i := 17) (N := some 24) (v := undef) (a' := ?_) mkspec_l754_23 rfl rfl (any_of HT_.out (by kernel_rfl)) (fun _ _ _ h => h) (Or.inr ⟨by rfl, rfl⟩) ?_ ?_
  rotate_left
  ·simp only [Act.put, sI, sZ, sS, i64_w, i32_w]
   rfl
  refine pure_ (i := 18) (N := some 25) (v := undef) (a' := ?_) mkspec_l754_24 rfl rfl (any_of HT_.out (by kernel_rfl)) (fun _ _ _ h => h) (Or.inr ⟨by rfl, rfl⟩) ?_ ?_
  rotate_left
  ·simp only [Act.put, sI, sZ, sS, i64_w, i32_w]
   rfl
  refine pure_ (i := 19) (N := some 26) (v := undef) (a' := ?_) mkspec_l754_25 rfl rfl (any_of HT_.out (by kernel_rfl)) (fun _ _ _ h => h) (Or.inr ⟨by rfl, rfl⟩) ?_ ?_
  rotate_left
  ·simp only [Act.put, sI, sZ, sS, i64_w, i32_w]
   rfl
  refine pure_ (i := 20) (N := some 27) (v := undef) (a' := ?_) mkspec_l754_26 rfl rfl (any_of HT_.out (by kernel_rfl)) (fun _ _ _ h => h) (Or.inr ⟨by rfl, rfl⟩) ?_ ?_
  rotate_left
  ·simp only [Act.put, sI, sZ, sS, i64_w, i32_w]
   rfl
  refine pure_ (i := 21) (N := some 28) (v := ?_) (a' := ?_) mkspec_l754_27 rfl rfl (any_of HT_.out (by kernel_rfl)) (fun _ _ _ h => h) (Or.inl ⟨by rfl, ?_⟩) ?_ ?_
  rotate_left
  ·intro w'
   go_simp
   with_reducible rfl
  rotate_left
  ·simp only [Act.put, sI, sZ, sS, i64_w, i32_w]
   rfl
  refine pure_ (i := 22) (N := some 29) (v := ?_) (a' := ?_) mkspec_l754_28 rfl rfl (any_of HT_.out (by kernel_rfl)) (fun _ _ _ h => h) (Or.inl ⟨by rfl, ?_⟩) ?_ ?_
  rotate_left
  ·intro w'
   go_simp
   with_reducible rfl
  rotate_left
  ·simp only [Act.put, sI, sZ, sS, i64_w, i32_w]
   rfl
  refine pure_ (i := 23) (N := some 30) (v := undef) (a' := ?_) mkspec_l754_29 rfl rfl (any_of HT_.out (by kernel_rfl)) (fun _ _ _ h => h) (Or.inr ⟨by rfl, rfl⟩) ?_ ?_
  rotate_left
  ·simp only [Act.put, sI, sZ, sS, i64_w, i32_w]
   rfl
  refine pure_ (i := 24) (N := some 31) (v := undef) (a' := ?_) mkspec_l754_30 rfl rfl (any_of HT_.out (by kernel_rfl)) (fun _ _ _ h => h) (Or.inr ⟨by rfl, rfl⟩) ?_ ?_
  rotate_left
  ·simp only [Act.put, sI, sZ, sS, i64_w, i32_w]
   rfl
  refine pure_ (i := 25) (N := some 32) (v := undef) (a' := ?_) mkspec_l754_31 rfl rfl (any_of HT_.out (by kernel_rfl)) (fun _ _ _ h => h) (Or.inr ⟨by rfl, rfl⟩) ?_ ?_
  rotate_left
  ·simp only [Act.put, sI, sZ, sS, i64_w, i32_w]
   rfl
  refine pure_ (i := 26) (N := some 33) (v := undef) (a' := ?_) mkspec_l754_33 rfl rfl (any_of HT_.out (by kernel_rfl)) (fun _ _ _ h => h) (Or.inr ⟨by rfl, rfl⟩) ?_ ?_
  rotate_left
  ·simp only [Act.put, sI, sZ, sS, i64_w, i32_w]
   rfl
  refine pure_ (i := 27) (N := some 34) (v := undef) (a' := ?_) mkspec_l754_35 rfl rfl (any_of HT_.out (by kernel_rfl)) (fun _ _ _ h => h) (Or.inr ⟨by rfl, rfl⟩) ?_ ?_
  rotate_left
  ·simp only [Act.put, sI, sZ, sS, i64_w, i32_w]
   rfl
  refine pure_ (i := 28) (N := some 35) (v := undef) (a' := ?_) mkspec_l754_37 rfl rfl (any_of HT_.out (by kernel_rfl)) (fun _ _ _ h => h) (Or.inr ⟨by rfl, rfl⟩) ?_ ?_
  rotate_left
  ·simp only [Act.put, sI, sZ, sS, i64_w, i32_w]
   rfl
  refine pure_ (i := 29) (N := some 36) (v := undef) (a' := ?_) mkspec_l754_39 rfl rfl (any_of HT_.out (by kernel_rfl)) (fun _ _ _ h => h) (Or.inr ⟨by rfl, rfl⟩) ?_ ?_
  rotate_left
  ·simp only [Act.put, sI, sZ, sS, i64_w, i32_w]
   rfl
  refine pure_ (i := 30) (N := some 37) (v := undef) (a' := ?_) mkspec_l754_41 rfl rfl (any_of HT_.out (by kernel_rfl)) (fun _ _ _ h => h) (Or.inr ⟨by rfl, rfl⟩) ?_ ?_
  rotate_left
  ·simp only [Act.put, sI, sZ, sS, i64_w, i32_w]
   rfl
  refine pure_ (i := 31) (N := some 38) (v := undef) (a' := ?_) mkspec_l754_42 rfl rfl (any_of HT_.out (by kernel_rfl)) (fun _ _ _ h => h) (Or.inr ⟨by rfl, rfl⟩) ?_ ?_
  rotate_left
  ·simp only [Act.put, sI, sZ, sS, i64_w, i32_w]
   rfl
  refine pure_ (i := 32) (N := some 39) (v := undef) (a' := ?_) mkspec_l754_43 rfl rfl (any_of HT_.out (by kernel_rfl)) (fun _ _ _ h => h) (Or.inr ⟨by rfl, rfl⟩) ?_ ?_
  rotate_left
  ·simp only [Act.put, sI, sZ, sS, i64_w, i32_w]
   rfl
  refine pure_ (i := 33) (N := some 40) (v := undef) (a' := ?_) mkspec_l754_44 rfl rfl (any_of HT_.out (by kernel_rfl)) (fun _ _ _ h => h) (Or.inr ⟨by rfl, rfl⟩) ?_ ?_
  rotate_left
  ·simp only [Act.put, sI, sZ, sS, i64_w, i32_w]
   rfl
  refine pure_ (i := 34) (N := some 41) (v := undef) (a' := ?_) mkspec_l754_45 rfl rfl (any_of HT_.out (by kernel_rfl)) (fun _ _ _ h => h) (Or.inr ⟨by rfl, rfl⟩) ?_ ?_
  rotate_left
  ·simp only [Act.put, sI, sZ, sS, i64_w, i32_w]
   rfl
  refine pure_ (i := 35) (N := some 42) (v := undef) (a' := ?_) mkspec_l754_46 rfl rfl (any_of HT_.out (by kernel_rfl)) (fun _ _ _ h => h) (Or.inr ⟨by rfl, rfl⟩) ?_ ?_
  rotate_left
  ·simp only [Act.put, sI, sZ, sS, i64_w, i32_w]
   rfl
  refine pure_ (i := 36) (N := some 43) (v := ?_) (a' := ?_) mkspec_l754_47 rfl rfl (any_of HT_.out (by kernel_rfl)) (fun _ _ _ h => h) (Or.inl ⟨by rfl, ?_⟩) ?_ ?_
  rotate_left
  ·intro w'
   go_simp
   with_reducible rfl
  rotate_left
  ·simp only [Act.put, sI, sZ, sS, i64_w, i32_w]
   rfl
  refine pure_ (i := 37) (N := some 6) (v := ?_) (a' := ?_) mkspec_l754_48 rfl rfl (any_of HT_.out (by kernel_rfl)) (fun _ _ _ h => h) (Or.inl ⟨by rfl, ?_⟩) ?_ ?_
  rotate_left
  ·intro w'
   go_simp
   with_reducible rfl
  rotate_left
  ·simp only [Act.put, sI, sZ, sS, i64_w, i32_w]
   rfl
  refine done_ (done_of HT_.out (by kernel_rfl)) ?_
  try go_wp2
  go_ret
  exact ⟨eQ, bQ⟩

end Go.Proofs.Ytdahcapolipnbaa.QFnExactRuleFor
