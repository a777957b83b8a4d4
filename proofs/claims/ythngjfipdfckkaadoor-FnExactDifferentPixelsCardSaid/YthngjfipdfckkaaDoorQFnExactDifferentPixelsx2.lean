/- What some Go functions answer, each as a Lean function, and that the machine answers so: written by a program of this session out of the translation. -/
import Derived.Test.YthngjfipdfckkaaDoorQFnExactDifferentPixelsx0
import Derived.Test.YthngjfipdfckkaaDoorQFnExactDifferentPixelsx1
namespace Go.Proofs.YthngjfipdfckkaaDoor.QFnExactDifferentPixels
open Go.RowKit Go.Proofs.YthngjfipdfckkaaDoorW.PrintWords Go.Proofs.YthngjfipdfckkaaDoorW.PrintLast Go.Proofs.YthngjfipdfckkaaDoorW.PrintMore Go.Proofs.YthngjfipdfckkaaDoor.Rp
attribute [local go_sem] max2_int min2_int max_two min_two max_three min_three max_four min_four   -- for this text's walks alone
set_option linter.unusedVariables false
set_option linter.unusedSimpArgs false

/-! ### spec_l22At_at: function 34 -/
abbrev mkspec_l22At_at_0 : Array Bool := #[ff,ff,ff,ff,ff,ff,ff,ff,ff,ff,ff,ff,ff,ff,ff,ff,ff,ff,ff,ff,ff,ff,ff,ff,ff,ff,ff,ff,ff,ff,ff,ff,ff,ff,ff,ff,ff,ff,ff,ff]
abbrev mkspec_l22At_at_1 : Array Bool := #[tt,ff,ff,ff,ff,ff,ff,ff,ff,ff,ff,ff,ff,ff,ff,ff,ff,ff,ff,ff,ff,ff,ff,ff,ff,ff,ff,ff,ff,ff,ff,ff,ff,ff,ff,ff,ff,ff,ff,ff]
abbrev mkspec_l22At_at_2 : Array Bool := #[tt,tt,ff,ff,ff,ff,ff,ff,ff,ff,ff,ff,ff,ff,ff,ff,ff,ff,ff,ff,ff,ff,ff,ff,ff,ff,ff,ff,ff,ff,ff,ff,ff,ff,ff,ff,ff,ff,ff,ff]
abbrev mkspec_l22At_at_3 : Array Bool := #[tt,tt,tt,ff,ff,ff,ff,ff,ff,ff,ff,ff,ff,ff,ff,ff,ff,ff,ff,ff,ff,ff,ff,ff,ff,ff,ff,ff,ff,ff,ff,ff,ff,ff,ff,ff,ff,ff,ff,ff]
abbrev mkspec_l22At_at_4 : Array Bool := #[tt,tt,tt,tt,ff,ff,ff,ff,ff,ff,ff,ff,ff,ff,ff,ff,ff,ff,ff,ff,ff,ff,ff,ff,ff,ff,ff,ff,ff,ff,ff,ff,ff,ff,ff,ff,ff,ff,ff,ff]
abbrev mkspec_l22At_at_5 : Array Bool := #[tt,tt,tt,tt,tt,ff,ff,ff,ff,ff,ff,ff,ff,ff,ff,ff,ff,ff,ff,ff,ff,ff,ff,ff,ff,ff,ff,ff,ff,ff,ff,ff,ff,ff,ff,ff,ff,ff,ff,ff]
abbrev mkspec_l22At_at_6 : Array Bool := #[tt,tt,tt,tt,tt,tt,ff,ff,ff,ff,ff,ff,ff,ff,ff,ff,ff,ff,ff,ff,ff,ff,ff,ff,ff,ff,ff,ff,ff,ff,ff,ff,ff,ff,ff,ff,ff,ff,ff,ff]
abbrev mkspec_l22At_at_7 : Array Bool := #[tt,tt,tt,tt,tt,tt,tt,ff,ff,ff,ff,ff,ff,ff,ff,ff,ff,ff,ff,ff,ff,ff,ff,ff,ff,ff,ff,ff,ff,ff,ff,ff,ff,ff,ff,ff,ff,ff,ff,ff]
abbrev mkspec_l22At_at_8 : Array Bool := #[tt,tt,tt,tt,tt,tt,tt,tt,ff,ff,ff,ff,ff,ff,ff,ff,ff,ff,ff,ff,ff,ff,ff,ff,ff,ff,ff,ff,ff,ff,ff,ff,ff,ff,ff,ff,ff,ff,ff,ff]
abbrev mkspec_l22At_at_9 : Array Bool := #[tt,tt,tt,tt,tt,tt,tt,tt,tt,ff,ff,ff,ff,ff,ff,ff,ff,ff,ff,ff,ff,ff,ff,ff,ff,ff,ff,ff,ff,ff,ff,ff,ff,ff,ff,ff,ff,ff,ff,ff]
abbrev mkspec_l22At_at_10 : Array Bool := #[tt,tt,tt,tt,tt,tt,tt,tt,tt,tt,ff,ff,ff,ff,ff,ff,ff,ff,ff,ff,ff,ff,ff,ff,ff,ff,ff,ff,ff,ff,ff,ff,ff,ff,ff,ff,ff,ff,ff,ff]
abbrev mkspec_l22At_at_11 : Array Bool := #[tt,tt,tt,tt,tt,tt,tt,tt,tt,tt,tt,ff,ff,ff,ff,ff,ff,ff,ff,ff,ff,ff,ff,ff,ff,ff,ff,ff,ff,ff,ff,ff,ff,ff,ff,ff,ff,ff,ff,ff]
abbrev mkspec_l22At_at_12 : Array Bool := #[tt,tt,tt,tt,tt,tt,tt,tt,tt,tt,tt,tt,ff,ff,ff,ff,ff,ff,ff,ff,ff,ff,ff,ff,ff,ff,ff,ff,ff,ff,ff,ff,ff,ff,ff,ff,ff,ff,ff,ff]
abbrev mkspec_l22At_at_13 : Array Bool := #[tt,tt,tt,tt,tt,tt,tt,tt,tt,tt,tt,tt,tt,ff,ff,ff,ff,ff,ff,ff,ff,ff,ff,ff,ff,ff,ff,ff,ff,ff,ff,ff,ff,ff,ff,ff,ff,ff,ff,ff]
abbrev mkspec_l22At_at_14 : Array Bool := #[tt,tt,tt,tt,tt,tt,tt,tt,tt,tt,tt,tt,tt,ff,ff,tt,ff,ff,ff,ff,ff,ff,ff,ff,ff,ff,ff,ff,ff,ff,ff,ff,ff,ff,ff,ff,ff,ff,ff,ff]
abbrev mkspec_l22At_at_15 : Array Bool := #[tt,tt,tt,tt,tt,tt,tt,tt,tt,tt,tt,tt,tt,tt,ff,ff,ff,ff,ff,ff,ff,ff,ff,ff,ff,ff,ff,ff,ff,ff,ff,ff,ff,ff,ff,ff,ff,ff,ff,ff]
abbrev mkspec_l22At_at_16 : Array Bool := #[tt,tt,tt,tt,tt,tt,tt,tt,tt,tt,tt,tt,tt,ff,ff,tt,tt,ff,ff,ff,ff,ff,ff,ff,ff,ff,ff,ff,ff,ff,ff,ff,ff,ff,ff,ff,ff,ff,ff,ff]
abbrev mkspec_l22At_at_17 : Array Bool := #[tt,tt,tt,tt,tt,tt,tt,tt,tt,tt,tt,tt,tt,tt,tt,ff,ff,ff,ff,ff,ff,ff,ff,ff,ff,ff,ff,ff,ff,ff,ff,ff,ff,ff,ff,ff,ff,ff,ff,ff]
abbrev mkspec_l22At_at_18 : Array Bool := #[tt,tt,tt,tt,tt,tt,tt,tt,tt,tt,tt,tt,tt,ff,ff,tt,tt,tt,ff,ff,ff,ff,ff,ff,ff,ff,ff,ff,ff,ff,ff,ff,ff,ff,ff,ff,ff,ff,ff,ff]
abbrev mkspec_l22At_at_19 : Array Bool := #[tt,tt,tt,tt,tt,tt,tt,tt,tt,tt,tt,tt,tt,tt,tt,tt,ff,ff,ff,ff,ff,ff,ff,ff,ff,ff,ff,ff,ff,ff,ff,ff,ff,ff,ff,ff,ff,ff,ff,ff]
abbrev mkspec_l22At_at_20 : Array Bool := #[tt,tt,tt,tt,tt,tt,tt,tt,tt,tt,tt,tt,tt,tt,ff,tt,tt,tt,ff,ff,ff,ff,ff,ff,ff,ff,ff,ff,ff,ff,ff,ff,ff,ff,ff,ff,ff,ff,ff,ff]
abbrev mkspec_l22At_at_21 : Array Bool := #[tt,tt,tt,tt,tt,tt,tt,tt,tt,tt,tt,tt,tt,tt,tt,tt,tt,ff,ff,ff,ff,ff,ff,ff,ff,ff,ff,ff,ff,ff,ff,ff,ff,ff,ff,ff,ff,ff,ff,ff]
abbrev mkspec_l22At_at_22 : Array Bool := #[tt,tt,tt,tt,tt,tt,tt,tt,tt,tt,tt,tt,tt,tt,tt,tt,tt,tt,ff,ff,ff,ff,ff,ff,ff,ff,ff,ff,ff,ff,ff,ff,ff,ff,ff,ff,ff,ff,ff,ff]
abbrev mkspec_l22At_at_23 : Array Bool := #[tt,tt,tt,tt,tt,tt,tt,tt,tt,tt,tt,tt,tt,tt,tt,tt,tt,tt,tt,ff,ff,ff,ff,ff,ff,ff,ff,ff,ff,ff,ff,ff,ff,ff,ff,ff,ff,ff,ff,ff]
abbrev mkspec_l22At_at_24 : Array Bool := #[tt,tt,tt,tt,tt,tt,tt,tt,tt,tt,tt,tt,tt,tt,tt,tt,tt,tt,tt,tt,ff,ff,ff,ff,ff,ff,ff,ff,ff,ff,ff,ff,ff,ff,ff,ff,ff,ff,ff,ff]
abbrev mkspec_l22At_at_25 : Array Bool := #[tt,tt,tt,tt,tt,tt,tt,tt,tt,tt,tt,tt,tt,tt,tt,tt,tt,tt,tt,tt,tt,ff,ff,ff,ff,ff,ff,ff,ff,ff,ff,ff,ff,ff,ff,ff,ff,ff,ff,ff]
abbrev mkspec_l22At_at_26 : Array Bool := #[tt,tt,tt,tt,tt,tt,tt,tt,tt,tt,tt,tt,tt,tt,tt,tt,tt,tt,tt,tt,tt,tt,ff,ff,ff,ff,ff,ff,ff,ff,ff,ff,ff,ff,ff,ff,ff,ff,ff,ff]
abbrev mkspec_l22At_at_27 : Array Bool := #[tt,tt,tt,tt,tt,tt,tt,tt,tt,tt,tt,tt,tt,tt,tt,tt,tt,tt,tt,tt,tt,tt,tt,ff,ff,ff,ff,ff,ff,ff,ff,ff,ff,ff,ff,ff,ff,ff,ff,ff]
abbrev mkspec_l22At_at_28 : Array Bool := #[tt,tt,tt,tt,tt,tt,tt,tt,tt,tt,tt,tt,tt,tt,tt,tt,tt,tt,tt,tt,tt,tt,tt,tt,ff,ff,ff,ff,ff,ff,ff,ff,ff,ff,ff,ff,ff,ff,ff,ff]
abbrev mkspec_l22At_at_29 : Array Bool := #[tt,tt,tt,tt,tt,tt,tt,tt,tt,tt,tt,tt,tt,tt,tt,tt,tt,tt,tt,tt,tt,tt,tt,tt,tt,ff,ff,ff,ff,ff,ff,ff,ff,ff,ff,ff,ff,ff,ff,ff]
abbrev mkspec_l22At_at_30 : Array Bool := #[tt,tt,tt,tt,tt,tt,tt,tt,tt,tt,tt,tt,tt,tt,tt,tt,tt,tt,tt,tt,tt,tt,tt,tt,tt,tt,ff,ff,ff,ff,ff,ff,ff,ff,ff,ff,ff,ff,ff,ff]
abbrev mkspec_l22At_at_31 : Array Bool := #[tt,tt,tt,tt,tt,tt,tt,tt,tt,tt,tt,tt,tt,tt,tt,tt,tt,tt,tt,tt,tt,tt,tt,tt,tt,tt,ff,tt,ff,ff,ff,ff,ff,ff,ff,ff,ff,ff,ff,ff]
abbrev mkspec_l22At_at_32 : Array Bool := #[tt,tt,tt,tt,tt,tt,tt,tt,tt,tt,tt,tt,tt,tt,tt,tt,tt,tt,tt,tt,tt,tt,tt,tt,tt,tt,tt,ff,ff,ff,ff,ff,ff,ff,ff,ff,ff,ff,ff,ff]
abbrev mkspec_l22At_at_33 : Array Bool := #[tt,tt,tt,tt,tt,tt,tt,tt,tt,tt,tt,tt,tt,tt,tt,tt,tt,tt,tt,tt,tt,tt,tt,tt,tt,tt,ff,tt,ff,ff,tt,ff,ff,ff,ff,ff,ff,ff,ff,ff]
abbrev mkspec_l22At_at_34 : Array Bool := #[tt,tt,tt,tt,tt,tt,tt,tt,tt,tt,tt,tt,tt,tt,tt,tt,tt,tt,tt,tt,tt,tt,tt,tt,tt,tt,tt,tt,ff,ff,ff,ff,ff,ff,ff,ff,ff,ff,ff,ff]
abbrev mkspec_l22At_at_35 : Array Bool := #[tt,tt,tt,tt,tt,tt,tt,tt,tt,tt,tt,tt,tt,tt,tt,tt,tt,tt,tt,tt,tt,tt,tt,tt,tt,tt,ff,tt,ff,ff,tt,tt,ff,ff,ff,ff,ff,ff,ff,ff]
abbrev mkspec_l22At_at_36 : Array Bool := #[tt,tt,tt,tt,tt,tt,tt,tt,tt,tt,tt,tt,tt,tt,tt,tt,tt,tt,tt,tt,tt,tt,tt,tt,tt,tt,tt,tt,tt,ff,ff,ff,ff,ff,ff,ff,ff,ff,ff,ff]
abbrev mkspec_l22At_at_37 : Array Bool := #[tt,tt,tt,tt,tt,tt,tt,tt,tt,tt,tt,tt,tt,tt,tt,tt,tt,tt,tt,tt,tt,tt,tt,tt,tt,tt,ff,tt,ff,ff,tt,tt,tt,ff,ff,ff,ff,ff,ff,ff]
abbrev mkspec_l22At_at_38 : Array Bool := #[tt,tt,tt,tt,tt,tt,tt,tt,tt,tt,tt,tt,tt,tt,tt,tt,tt,tt,tt,tt,tt,tt,tt,tt,tt,tt,tt,tt,tt,tt,ff,ff,ff,ff,ff,ff,ff,ff,ff,ff]
abbrev mkspec_l22At_at_39 : Array Bool := #[tt,tt,tt,tt,tt,tt,tt,tt,tt,tt,tt,tt,tt,tt,tt,tt,tt,tt,tt,tt,tt,tt,tt,tt,tt,tt,ff,tt,ff,ff,tt,tt,tt,tt,ff,ff,ff,ff,ff,ff]
abbrev mkspec_l22At_at_40 : Array Bool := #[tt,tt,tt,tt,tt,tt,tt,tt,tt,tt,tt,tt,tt,tt,tt,tt,tt,tt,tt,tt,tt,tt,tt,tt,tt,tt,tt,tt,tt,tt,tt,ff,ff,ff,ff,ff,ff,ff,ff,ff]
abbrev mkspec_l22At_at_41 : Array Bool := #[tt,tt,tt,tt,tt,tt,tt,tt,tt,tt,tt,tt,tt,tt,tt,tt,tt,tt,tt,tt,tt,tt,tt,tt,tt,tt,tt,tt,ff,ff,tt,tt,tt,tt,ff,ff,ff,ff,ff,ff]
abbrev mkspec_l22At_at_42 : Array Bool := #[tt,tt,tt,tt,tt,tt,tt,tt,tt,tt,tt,tt,tt,tt,tt,tt,tt,tt,tt,tt,tt,tt,tt,tt,tt,tt,tt,tt,tt,tt,tt,tt,ff,ff,ff,ff,ff,ff,ff,ff]
abbrev mkspec_l22At_at_43 : Array Bool := #[tt,tt,tt,tt,tt,tt,tt,tt,tt,tt,tt,tt,tt,tt,tt,tt,tt,tt,tt,tt,tt,tt,tt,tt,tt,tt,tt,tt,tt,ff,tt,tt,tt,tt,ff,ff,ff,ff,ff,ff]
abbrev mkspec_l22At_at_44 : Array Bool := #[tt,tt,tt,tt,tt,tt,tt,tt,tt,tt,tt,tt,tt,tt,tt,tt,tt,tt,tt,tt,tt,tt,tt,tt,tt,tt,tt,tt,tt,tt,tt,tt,tt,ff,ff,ff,ff,ff,ff,ff]
abbrev mkspec_l22At_at_45 : Array Bool := #[tt,tt,tt,tt,tt,tt,tt,tt,tt,tt,tt,tt,tt,tt,tt,tt,tt,tt,tt,tt,tt,tt,tt,tt,tt,tt,tt,tt,tt,tt,tt,tt,tt,tt,ff,ff,ff,ff,ff,ff]
abbrev mkspec_l22At_at_46 : Array Bool := #[tt,tt,tt,tt,tt,tt,tt,tt,tt,tt,tt,tt,tt,tt,tt,tt,tt,tt,tt,tt,tt,tt,tt,tt,tt,tt,tt,tt,tt,tt,tt,tt,tt,tt,tt,ff,ff,ff,ff,ff]
abbrev mkspec_l22At_at_47 : Array Bool := #[tt,tt,tt,tt,tt,tt,tt,tt,tt,tt,tt,tt,tt,tt,tt,tt,tt,tt,tt,tt,tt,tt,tt,tt,tt,tt,tt,tt,tt,tt,tt,tt,tt,tt,tt,tt,ff,ff,ff,ff]
abbrev mkspec_l22At_at_48 : Array Bool := #[tt,tt,tt,tt,tt,tt,tt,tt,tt,tt,tt,tt,tt,tt,tt,tt,tt,tt,tt,tt,tt,tt,tt,tt,tt,tt,tt,tt,tt,tt,tt,tt,tt,tt,tt,tt,tt,ff,ff,ff]
abbrev mkspec_l22At_at_49 : Array Bool := #[tt,tt,tt,tt,tt,tt,tt,tt,tt,tt,tt,tt,tt,tt,tt,tt,tt,tt,tt,tt,tt,tt,tt,tt,tt,tt,tt,tt,tt,tt,tt,tt,tt,tt,tt,tt,tt,tt,ff,ff]
abbrev mkspec_l22At_at_50 : Array Bool := #[tt,tt,tt,tt,tt,tt,tt,tt,tt,tt,tt,tt,tt,tt,tt,tt,tt,tt,tt,tt,tt,tt,tt,tt,tt,tt,tt,tt,tt,tt,tt,tt,tt,tt,tt,tt,tt,tt,tt,ff]
abbrev mkspec_l22At_at_51 : Array Bool := #[tt,tt,tt,tt,tt,tt,tt,tt,tt,tt,tt,tt,tt,tt,tt,tt,tt,tt,tt,tt,tt,tt,tt,tt,tt,tt,tt,tt,tt,tt,tt,tt,tt,tt,tt,tt,tt,tt,tt,tt]
abbrev mkspec_l22At_at_52 : Array Bool := #[ff,ff,ff,ff,ff,ff,ff,ff,ff,ff,ff,ff,ff,ff]
abbrev mkspec_l22At_at_53 : Array Bool := #[tt,ff,ff,ff,ff,ff,ff,ff,ff,ff,ff,ff,ff,ff]
abbrev mkspec_l22At_at_54 : Array Bool := #[tt,tt,ff,ff,ff,ff,ff,ff,ff,ff,ff,ff,ff,ff]
abbrev mkspec_l22At_at_55 : Array Bool := #[tt,tt,tt,ff,ff,ff,ff,ff,ff,ff,ff,ff,ff,ff]
abbrev mkspec_l22At_at_56 : Array Bool := #[tt,tt,tt,ff,ff,ff,tt,ff,ff,ff,ff,ff,ff,ff]
abbrev mkspec_l22At_at_57 : Array Bool := #[tt,tt,tt,ff,ff,ff,tt,tt,ff,ff,ff,ff,ff,ff]
abbrev mkspec_l22At_at_58 : Array Bool := #[tt,tt,tt,ff,ff,ff,tt,tt,tt,ff,ff,ff,ff,ff]
abbrev mkspec_l22At_at_59 : Array Bool := #[tt,tt,tt,ff,ff,ff,tt,tt,tt,tt,ff,ff,ff,ff]
abbrev mkspec_l22At_at_60 : Array Bool := #[tt,tt,tt,tt,ff,ff,tt,tt,tt,tt,ff,ff,ff,ff]
abbrev mkspec_l22At_at_61 : Array Bool := #[tt,tt,tt,tt,tt,ff,tt,tt,tt,tt,ff,ff,ff,ff]
abbrev mkspec_l22At_at_62 : Array Bool := #[tt,tt,tt,tt,tt,tt,tt,tt,tt,tt,ff,ff,ff,ff]
abbrev mkspec_l22At_at_63 : Array Bool := #[tt,tt,tt,tt,tt,tt,tt,tt,tt,tt,tt,ff,ff,ff]
abbrev mkspec_l22At_at_64 : Array Bool := #[tt,tt,tt,tt,tt,tt,tt,tt,tt,tt,tt,tt,ff,ff]
abbrev mkspec_l22At_at_65 : Array Bool := #[tt,tt,tt,tt,tt,tt,tt,tt,tt,tt,tt,tt,tt,ff]
abbrev mkspec_l22At_at_66 : Array Bool := #[tt,tt,tt,tt,tt,tt,tt,tt,tt,tt,tt,tt,tt,tt]
def spec_l22At_at.f (l0_0 : List (S27)) (a0_1 : Int) (a1 : Int) (a2 : Int) : Option (Bool) := (spec_l00In.f (wrap64 ((wrap64 ((((rd_T27 l0_0 a0_1).f3).length : Int) - 1)) - (wrap64 (a2 - ((rd_T27 l0_0 a0_1).f1))))) 0 (wrap64 ((((rd_T27 l0_0 a0_1).f3).length : Int) - 1))).bind fun t131 => (if t131 = true then ((spec_l00In.f (wrap64 (a1 - ((rd_T27 l0_0 a0_1).f0))) 0 (wrap64 (((rd_T27 l0_0 a0_1).f2) - 1))).bind fun t134 => (if t134 = true then (if 0 ≤ (wrap64 ((wrap64 ((((rd_T27 l0_0 a0_1).f3).length : Int) - 1)) - (wrap64 (a2 - ((rd_T27 l0_0 a0_1).f1))))) then (if (wrap64 ((wrap64 ((((rd_T27 l0_0 a0_1).f3).length : Int) - 1)) - (wrap64 (a2 - ((rd_T27 l0_0 a0_1).f1))))) < (((rd_T27 l0_0 a0_1).f3).length : Int) then (if 0 ≤ (wrap64 (a1 - ((rd_T27 l0_0 a0_1).f0))) then (if (wrap64 (a1 - ((rd_T27 l0_0 a0_1).f0))) < ((rdOf ByteArray.empty ((rd_T27 l0_0 a0_1).f3) (wrap64 ((wrap64 ((((rd_T27 l0_0 a0_1).f3).length : Int) - 1)) - (wrap64 (a2 - ((rd_T27 l0_0 a0_1).f1)))))).size : Int) then (some ((bt (rdOf ByteArray.empty ((rd_T27 l0_0 a0_1).f3) (wrap64 ((wrap64 ((((rd_T27 l0_0 a0_1).f3).length : Int) - 1)) - (wrap64 (a2 - ((rd_T27 l0_0 a0_1).f1)))))) (wrap64 (a1 - ((rd_T27 l0_0 a0_1).f0)))) == 35)) else (none)) else (none)) else (none)) else (none)) else (some false))) else (some false))
def spec_l22At_at.T1 : Bool × List (List Nat × List Nat) := (true, [([], []), ([0], [0]), ([1], [1]), ([2], [2]), ([3], [3]), ([4], [4]), ([], []), ([], []), ([7], [7]), ([8], [8]), ([9], [9]), ([6, 10], [6, 10]), ([5, 11], [5, 11]), ([12, 0, 1, 2, 3, 4, 5, 6, 7, 8, 9, 10, 11, 12], [12])])
def spec_l22At_at.B1 : List Nat := [0, 1, 3, 7, 15, 31, 0, 0, 128, 384, 896, 1984, 4095, 8191]
theorem spec_l22At_at.tab1 : rtab .any (opsOf Tryd.f34 1) = spec_l22At_at.T1 := by kernel_rfl
theorem spec_l22At_at.bits1 : waitsOk spec_l22At_at.T1.2 spec_l22At_at.B1 = true := by kernel_rfl
def spec_l22At_at.T2 : Bool × List (List Nat × List Nat) := (true, [([], []), ([], []), ([1], [1]), ([2], [2]), ([3], [3]), ([4], [4]), ([5], [5]), ([0, 6], [0, 6]), ([7, 7], [7]), ([8], [8]), ([8], [8]), ([10, 8], [8, 10]), ([11, 8], [8, 11]), ([12, 8], [8, 12]), ([9, 13, 8], [8, 9, 13]), ([8], [8]), ([15, 8], [8, 15]), ([16, 8], [8, 16]), ([17, 8], [8, 17]), ([18, 8], [8, 18]), ([14, 19, 8, 8], [8, 14, 19]), ([8, 20], [8, 20]), ([21, 20], [21]), ([22], [22]), ([23, 22], [22, 23]), ([24, 22], [22, 24]), ([25, 22], [22, 25]), ([22], [22]), ([26, 27, 22], [22, 26, 27]), ([28, 22], [22, 28]), ([22], [22]), ([22], [22]), ([31, 22], [22, 31]), ([32, 22], [22, 32]), ([33, 22], [22, 33]), ([30, 34, 22], [22, 30, 34]), ([29, 35, 22], [22, 29, 35]), ([36, 22], [22, 36]), ([22, 37], [22, 37]), ([38, 22, 0, 1, 2, 3, 4, 5, 6, 7, 8, 9, 10, 11, 12, 13, 14, 15, 16, 17, 18, 19, 20, 21, 22, 23, 24, 25, 26, 27, 28, 29, 30, 31, 32, 33, 34, 35, 36, 37, 38], [38])])
def spec_l22At_at.B2 : List Nat := [0, 0, 2, 6, 14, 30, 62, 127, 255, 511, 511, 1535, 3583, 7679, 16383, 511, 33279, 98815, 229887, 492031, 1048575, 2097151, 4194303, 8388607, 16777215, 33554431, 67108863, 8388607, 268435455, 536870911, 8388607, 8388607, 2155872255, 6450839551, 15040774143, 33294385151, 68719476735, 137438953471, 274877906943, 549755813887]
theorem spec_l22At_at.tab2 : rtab .any (opsOf Tryd.f34 2) = spec_l22At_at.T2 := by kernel_rfl
theorem spec_l22At_at.bits2 : waitsOk spec_l22At_at.T2.2 spec_l22At_at.B2 = true := by kernel_rfl
set_option maxHeartbeats 8000000 in
set_option maxRecDepth 100000 in
theorem spec_l22At_at.calls (p0_ : Addr) (l0_0 : List (S27)) (a0_1 : Int) (a1 : Int) (a2 : Int) (r : Bool) (w : World) (hP0_ : RPtr k27 ((a0_1 : Int).toNat * 4) w p0_ l0_0 a0_1) (h : spec_l22At_at.f l0_0 a0_1 a1 a2 = some r) :
  Calls Tryd.prog 34 #[.pointer (some p0_), .int .i64 a1, .int .i64 a2] w fun e w' => e = .returned (.bool r) ∧ Below w.heap.size w w' := by
 obtain ⟨ad0_, rfl, hr0_0, hi0_, hj0_⟩ := hP0_
 have hc0_0 : l0_0.length ≤ l0_0.length := Nat.le_refl _
 replace hi0_ := decide_eq_true hi0_
 replace hj0_ := decide_eq_true hj0_
 obtain ⟨ad9000, A9000_3, c9000_3, e9000, HX9000_0, HX9000_1, HX9000_2, HX9000_3, HC9000_3, HR9000_3⟩ := at_T27 hr0_0 a0_1 (of_decide_eq_true hi0_) (of_decide_eq_true hj0_)
 obtain rfl : ad0_ = ad9000 := (by injection e9000)
 replace HX9000_0 := aM HX9000_0
 replace HX9000_1 := aM HX9000_1
 replace HX9000_2 := aM HX9000_2
 replace HX9000_3 := aM HX9000_3
 replace HC9000_3 := aM HC9000_3
 replace HR9000_3 := aM HR9000_3
 have HR0_0 := aM hr0_0
 have HC0_0 := aM hc0_0
 clear hr0_0 hc0_0
 have HB := aM (Below.refl w.heap.size w)
 have H : ((spec_l00In.f (wrap64 ((wrap64 ((((rd_T27 l0_0 a0_1).f3).length : Int) - 1)) - (wrap64 (a2 - ((rd_T27 l0_0 a0_1).f1))))) 0 (wrap64 ((((rd_T27 l0_0 a0_1).f3).length : Int) - 1))).bind fun t131 => (if t131 = true then ((spec_l00In.f (wrap64 (a1 - ((rd_T27 l0_0 a0_1).f0))) 0 (wrap64 (((rd_T27 l0_0 a0_1).f2) - 1))).bind fun t134 => (if t134 = true then (if 0 ≤ (wrap64 ((wrap64 ((((rd_T27 l0_0 a0_1).f3).length : Int) - 1)) - (wrap64 (a2 - ((rd_T27 l0_0 a0_1).f1))))) then (if (wrap64 ((wrap64 ((((rd_T27 l0_0 a0_1).f3).length : Int) - 1)) - (wrap64 (a2 - ((rd_T27 l0_0 a0_1).f1))))) < (((rd_T27 l0_0 a0_1).f3).length : Int) then (if 0 ≤ (wrap64 (a1 - ((rd_T27 l0_0 a0_1).f0))) then (if (wrap64 (a1 - ((rd_T27 l0_0 a0_1).f0))) < ((rdOf ByteArray.empty ((rd_T27 l0_0 a0_1).f3) (wrap64 ((wrap64 ((((rd_T27 l0_0 a0_1).f3).length : Int) - 1)) - (wrap64 (a2 - ((rd_T27 l0_0 a0_1).f1)))))).size : Int) then (some ((bt (rdOf ByteArray.empty ((rd_T27 l0_0 a0_1).f3) (wrap64 ((wrap64 ((((rd_T27 l0_0 a0_1).f3).length : Int) - 1)) - (wrap64 (a2 - ((rd_T27 l0_0 a0_1).f1)))))) (wrap64 (a1 - ((rd_T27 l0_0 a0_1).f0)))) == 35)) else (none)) else (none)) else (none)) else (none)) else (some false))) else (some false))) = some r := h
 clear h
 replace H := Option.bind_eq_some_iff.mp H
 obtain ⟨t131, A40, H⟩ := H
 replace H : (if t131 = true then ((spec_l00In.f (wrap64 (a1 - ((rd_T27 l0_0 a0_1).f0))) 0 (wrap64 (((rd_T27 l0_0 a0_1).f2) - 1))).bind fun t134 => (if t134 = true then (if 0 ≤ (wrap64 ((wrap64 ((((rd_T27 l0_0 a0_1).f3).length : Int) - 1)) - (wrap64 (a2 - ((rd_T27 l0_0 a0_1).f1))))) then (if (wrap64 ((wrap64 ((((rd_T27 l0_0 a0_1).f3).length : Int) - 1)) - (wrap64 (a2 - ((rd_T27 l0_0 a0_1).f1))))) < (((rd_T27 l0_0 a0_1).f3).length : Int) then (if 0 ≤ (wrap64 (a1 - ((rd_T27 l0_0 a0_1).f0))) then (if (wrap64 (a1 - ((rd_T27 l0_0 a0_1).f0))) < ((rdOf ByteArray.empty ((rd_T27 l0_0 a0_1).f3) (wrap64 ((wrap64 ((((rd_T27 l0_0 a0_1).f3).length : Int) - 1)) - (wrap64 (a2 - ((rd_T27 l0_0 a0_1).f1)))))).size : Int) then (some ((bt (rdOf ByteArray.empty ((rd_T27 l0_0 a0_1).f3) (wrap64 ((wrap64 ((((rd_T27 l0_0 a0_1).f3).length : Int) - 1)) - (wrap64 (a2 - ((rd_T27 l0_0 a0_1).f1)))))) (wrap64 (a1 - ((rd_T27 l0_0 a0_1).f0)))) == 35)) else (none)) else (none)) else (none)) else (none)) else (some false))) else (some false)) = some r := H
 have A4 := aM A40
 clear A40
 by_cases c5 : t131 = true
 ·subst c5
  have H1 : ((spec_l00In.f (wrap64 (a1 - ((rd_T27 l0_0 a0_1).f0))) 0 (wrap64 (((rd_T27 l0_0 a0_1).f2) - 1))).bind fun t134 => (if t134 = true then (if 0 ≤ (wrap64 ((wrap64 ((((rd_T27 l0_0 a0_1).f3).length : Int) - 1)) - (wrap64 (a2 - ((rd_T27 l0_0 a0_1).f1))))) then (if (wrap64 ((wrap64 ((((rd_T27 l0_0 a0_1).f3).length : Int) - 1)) - (wrap64 (a2 - ((rd_T27 l0_0 a0_1).f1))))) < (((rd_T27 l0_0 a0_1).f3).length : Int) then (if 0 ≤ (wrap64 (a1 - ((rd_T27 l0_0 a0_1).f0))) then (if (wrap64 (a1 - ((rd_T27 l0_0 a0_1).f0))) < ((rdOf ByteArray.empty ((rd_T27 l0_0 a0_1).f3) (wrap64 ((wrap64 ((((rd_T27 l0_0 a0_1).f3).length : Int) - 1)) - (wrap64 (a2 - ((rd_T27 l0_0 a0_1).f1)))))).size : Int) then (some ((bt (rdOf ByteArray.empty ((rd_T27 l0_0 a0_1).f3) (wrap64 ((wrap64 ((((rd_T27 l0_0 a0_1).f3).length : Int) - 1)) - (wrap64 (a2 - ((rd_T27 l0_0 a0_1).f1)))))) (wrap64 (a1 - ((rd_T27 l0_0 a0_1).f0)))) == 35)) else (none)) else (none)) else (none)) else (none)) else (some false))) = some r := by rw [if_pos rfl] at H; exact H
  clear H
  have H := H1
  clear H1
  replace H := Option.bind_eq_some_iff.mp H
  obtain ⟨t134, A60, H⟩ := H
  replace H : (if t134 = true then (if 0 ≤ (wrap64 ((wrap64 ((((rd_T27 l0_0 a0_1).f3).length : Int) - 1)) - (wrap64 (a2 - ((rd_T27 l0_0 a0_1).f1))))) then (if (wrap64 ((wrap64 ((((rd_T27 l0_0 a0_1).f3).length : Int) - 1)) - (wrap64 (a2 - ((rd_T27 l0_0 a0_1).f1))))) < (((rd_T27 l0_0 a0_1).f3).length : Int) then (if 0 ≤ (wrap64 (a1 - ((rd_T27 l0_0 a0_1).f0))) then (if (wrap64 (a1 - ((rd_T27 l0_0 a0_1).f0))) < ((rdOf ByteArray.empty ((rd_T27 l0_0 a0_1).f3) (wrap64 ((wrap64 ((((rd_T27 l0_0 a0_1).f3).length : Int) - 1)) - (wrap64 (a2 - ((rd_T27 l0_0 a0_1).f1)))))).size : Int) then (some ((bt (rdOf ByteArray.empty ((rd_T27 l0_0 a0_1).f3) (wrap64 ((wrap64 ((((rd_T27 l0_0 a0_1).f3).length : Int) - 1)) - (wrap64 (a2 - ((rd_T27 l0_0 a0_1).f1)))))) (wrap64 (a1 - ((rd_T27 l0_0 a0_1).f0)))) == 35)) else (none)) else (none)) else (none)) else (none)) else (some false)) = some r := H
  have A6 := aM A60
  clear A60
  by_cases c7 : t134 = true
  ·subst c7
   have H1 : (if 0 ≤ (wrap64 ((wrap64 ((((rd_T27 l0_0 a0_1).f3).length : Int) - 1)) - (wrap64 (a2 - ((rd_T27 l0_0 a0_1).f1))))) then (if (wrap64 ((wrap64 ((((rd_T27 l0_0 a0_1).f3).length : Int) - 1)) - (wrap64 (a2 - ((rd_T27 l0_0 a0_1).f1))))) < (((rd_T27 l0_0 a0_1).f3).length : Int) then (if 0 ≤ (wrap64 (a1 - ((rd_T27 l0_0 a0_1).f0))) then (if (wrap64 (a1 - ((rd_T27 l0_0 a0_1).f0))) < ((rdOf ByteArray.empty ((rd_T27 l0_0 a0_1).f3) (wrap64 ((wrap64 ((((rd_T27 l0_0 a0_1).f3).length : Int) - 1)) - (wrap64 (a2 - ((rd_T27 l0_0 a0_1).f1)))))).size : Int) then (some ((bt (rdOf ByteArray.empty ((rd_T27 l0_0 a0_1).f3) (wrap64 ((wrap64 ((((rd_T27 l0_0 a0_1).f3).length : Int) - 1)) - (wrap64 (a2 - ((rd_T27 l0_0 a0_1).f1)))))) (wrap64 (a1 - ((rd_T27 l0_0 a0_1).f0)))) == 35)) else (none)) else (none)) else (none)) else (none)) = some r := by rw [if_pos rfl] at H; exact H
   clear H
   have H := H1
   clear H1
   obtain ⟨ji8, hji8⟩ : ∃ j_ : Int, (wrap64 ((wrap64 ((((rd_T27 l0_0 a0_1).f3).length : Int) - 1)) - (wrap64 (a2 - ((rd_T27 l0_0 a0_1).f1))))) = j_ := ⟨_, rfl⟩
   replace H : (if 0 ≤ (ji8) then (if (ji8) < (((rd_T27 l0_0 a0_1).f3).length : Int) then (if 0 ≤ (wrap64 (a1 - ((rd_T27 l0_0 a0_1).f0))) then (if (wrap64 (a1 - ((rd_T27 l0_0 a0_1).f0))) < ((rdOf ByteArray.empty ((rd_T27 l0_0 a0_1).f3) (ji8)).size : Int) then (some ((bt (rdOf ByteArray.empty ((rd_T27 l0_0 a0_1).f3) (ji8)) (wrap64 (a1 - ((rd_T27 l0_0 a0_1).f0)))) == 35)) else (none)) else (none)) else (none)) else (none)) = some r := by first | (rw [hji8] at H; exact H) | (simp only [hji8] at H ⊢; exact H)
   (try rw [hji8] at A4)
   (try rw [hji8] at A6)
   have hji8w : (IntKind.i64.wrap ((wrap64 ((((rd_T27 l0_0 a0_1).f3).length : Int) - 1)) - (wrap64 (a2 - ((rd_T27 l0_0 a0_1).f1))))) = ji8 := (i64_w _).trans hji8
   by_cases c9 : 0 ≤ (ji8)
   ·rw [if_pos c9] at H
    have c9b0 : decide (0 ≤ (ji8)) = true := decide_eq_true c9
    clear c9
    by_cases c10 : (ji8) < (((rd_T27 l0_0 a0_1).f3).length : Int)
    ·rw [if_pos c10] at H
     have c10b0 : decide ((ji8) < (((rd_T27 l0_0 a0_1).f3).length : Int)) = true := decide_eq_true c10
     clear c10
     obtain ⟨ji11, hji11⟩ : ∃ j_ : Int, (wrap64 (a1 - ((rd_T27 l0_0 a0_1).f0))) = j_ := ⟨_, rfl⟩
     replace H : (if 0 ≤ (ji11) then (if (ji11) < ((rdOf ByteArray.empty ((rd_T27 l0_0 a0_1).f3) (ji8)).size : Int) then (some ((bt (rdOf ByteArray.empty ((rd_T27 l0_0 a0_1).f3) (ji8)) (ji11)) == 35)) else (none)) else (none)) = some r := by first | (rw [hji11] at H; exact H) | (simp only [hji11] at H ⊢; exact H)
     (try rw [hji11] at A4)
     (try rw [hji11] at A6)
     have hji11w : (IntKind.i64.wrap (a1 - ((rd_T27 l0_0 a0_1).f0))) = ji11 := (i64_w _).trans hji11
     by_cases c12 : 0 ≤ (ji11)
     ·rw [if_pos c12] at H
      have c12b0 : decide (0 ≤ (ji11)) = true := decide_eq_true c12
      clear c12
      by_cases c13 : (ji11) < ((rdOf ByteArray.empty ((rd_T27 l0_0 a0_1).f3) (ji8)).size : Int)
      ·rw [if_pos c13] at H
       have c13b0 : decide ((ji11) < ((rdOf ByteArray.empty ((rd_T27 l0_0 a0_1).f3) (ji8)).size : Int)) = true := decide_eq_true c13
       clear c13
       obtain rfl := Option.some.inj H
       go_enter Tryd.func34, Tryd.ntmps34
       try go_wp2
       have n0_ := aM (below_drew1 HB.out)
       clear HB
       have HB := n0_
       clear n0_
       have hx128_0 := HX9000_0.out
       have hx128_1 := HX9000_1.out
       have hx128_2 := HX9000_2.out
       have hx128_3 := HX9000_3.out
       have hw128_3 := hx128_3
       have hw128_2 := hx128_2
       have hw128_1 := hx128_1
       have hw128_0 := hx128_0
       replace hx128_0 := cB HB.out hx128_0
       replace hx128_1 := cB HB.out hx128_1
       replace hx128_2 := cB HB.out hx128_2
       replace hx128_3 := cB HB.out hx128_3
       have HR128_3 := HR9000_3
       have HC128_3 := HC9000_3
       have hx129_0 := HX9000_0.out
       have hx129_1 := HX9000_1.out
       have hx129_2 := HX9000_2.out
       have hx129_3 := HX9000_3.out
       have hw129_3 := hx129_3
       have hw129_2 := hx129_2
       have hw129_1 := hx129_1
       have hw129_0 := hx129_0
       replace hx129_0 := cB HB.out hx129_0
       replace hx129_1 := cB HB.out hx129_1
       replace hx129_2 := cB HB.out hx129_2
       replace hx129_3 := cB HB.out hx129_3
       have HR129_3 := HR9000_3
       have HC129_3 := HC9000_3
       refine start_ (n := 14) (S := fun w' => w'.cell? (ad0_.add ((a0_1).toNat * 4)) = some (.int .i64 ((rd_T27 l0_0 a0_1).f0)) ∧ w'.cell? ⟨(ad0_.add ((a0_1).toNat * 4)).block, (ad0_.add ((a0_1).toNat * 4)).off + 1, none⟩ = some (.int .i64 ((rd_T27 l0_0 a0_1).f1)) ∧ w'.cell? ⟨(ad0_.add ((a0_1).toNat * 4)).block, (ad0_.add ((a0_1).toNat * 4)).off + 2, none⟩ = some (.int .i64 ((rd_T27 l0_0 a0_1).f2)) ∧ w'.cell? ⟨(ad0_.add ((a0_1).toNat * 4)).block, (ad0_.add ((a0_1).toNat * 4)).off + 3, none⟩ = some (.slice A9000_3 ((rd_T27 l0_0 a0_1).f3).length c9000_3) ∧ w'.cell? (ad0_.add ((a0_1).toNat * 4)) = some (.int .i64 ((rd_T27 l0_0 a0_1).f0)) ∧ w'.cell? ⟨(ad0_.add ((a0_1).toNat * 4)).block, (ad0_.add ((a0_1).toNat * 4)).off + 1, none⟩ = some (.int .i64 ((rd_T27 l0_0 a0_1).f1)) ∧ w'.cell? ⟨(ad0_.add ((a0_1).toNat * 4)).block, (ad0_.add ((a0_1).toNat * 4)).off + 2, none⟩ = some (.int .i64 ((rd_T27 l0_0 a0_1).f2)) ∧ w'.cell? ⟨(ad0_.add ((a0_1).toNat * 4)).block, (ad0_.add ((a0_1).toNat * 4)).off + 3, none⟩ = some (.slice A9000_3 ((rd_T27 l0_0 a0_1).f3).length c9000_3)) (ds := []) mkspec_l22At_at_52 (by kernel_rfl) rfl rfl ⟨(cB HB.out hw128_0), (cB HB.out hw128_1), (cB HB.out hw128_2), (cB HB.out hw128_3), (cB HB.out hw129_0), (cB HB.out hw129_1), (cB HB.out hw129_2), (cB HB.out hw129_3)⟩ (fun hHeld => ?_); refine with_tabW spec_l22At_at.tab1 spec_l22At_at.bits1 (fun HT_ HW_ => ?_)
       generalize w.drew = w15 at HB HR128_3 HR129_3 hx128_0 hx128_1 hx128_2 hx128_3 hx129_0 hx129_1 hx129_2 hx129_3 hHeld ⊢
       refine pQ (i := 0) (N := some 8) mkspec_l22At_at_53 ?_
       refine pQ (i := 1) (N := some 9) mkspec_l22At_at_54 ?_
       refine pQ (i := 2) (N := some 10) mkspec_l22At_at_55 ?_
       refine pQ (i := 6) (N := some 14) mkspec_l22At_at_56 ?_
       refine pQ (i := 7) (N := some 15) mkspec_l22At_at_57 ?_
       refine pQ (i := 8) (N := some 16) mkspec_l22At_at_58 ?_
       refine pQ (i := 9) (N := some 17) mkspec_l22At_at_59 ?_
       refine tQ (i := 3) (N := some 11) mkspec_l22At_at_60 rfl hHeld (Or.inl ⟨by rfl, by rintro w' ⟨s0, s1, s2, s3, s4, s5, s6, s7⟩; go_simp; with_reducible rfl⟩) ?_
       refine pQ (i := 4) (N := some 12) mkspec_l22At_at_61 ?_
       refine pQ (i := 5) (N := some 13) mkspec_l22At_at_62 ?_
       refine tQ (i := 10) (N := some 18) mkspec_l22At_at_63 rfl hHeld (Or.inl ⟨by rfl, by rintro w' ⟨s0, s1, s2, s3, s4, s5, s6, s7⟩; go_simp; with_reducible rfl⟩) ?_
       refine pQ (i := 11) (N := some 19) mkspec_l22At_at_64 ?_
       refine pQ (i := 12) (N := some 20) mkspec_l22At_at_65 ?_
       refine pQ (i := 13) (N := some 7) mkspec_l22At_at_66 ?_
       refine done_ (done_of HT_.out (by kernel_rfl)) ?_
       try go_wp2
       have n0_ := aM (below_drew1 HB.out)
       clear HB
       have HB := n0_
       clear n0_
       have hx130_0 := HX9000_0.out
       have hx130_1 := HX9000_1.out
       have hx130_2 := HX9000_2.out
       have hx130_3 := HX9000_3.out
       have hw130_3 := hx130_3
       have hw130_2 := hx130_2
       have hw130_1 := hx130_1
       have hw130_0 := hx130_0
       replace hx130_0 := cB HB.out hx130_0
       replace hx130_1 := cB HB.out hx130_1
       replace hx130_2 := cB HB.out hx130_2
       replace hx130_3 := cB HB.out hx130_3
       have HR130_3 := HR9000_3
       have HC130_3 := HC9000_3
       have hx132_0 := HX9000_0.out
       have hx132_1 := HX9000_1.out
       have hx132_2 := HX9000_2.out
       have hx132_3 := HX9000_3.out
       have hw132_3 := hx132_3
       have hw132_2 := hx132_2
       have hw132_1 := hx132_1
       have hw132_0 := hx132_0
       replace hx132_0 := cB HB.out hx132_0
       replace hx132_1 := cB HB.out hx132_1
       replace hx132_2 := cB HB.out hx132_2
       replace hx132_3 := cB HB.out hx132_3
       have HR132_3 := HR9000_3
       have HC132_3 := HC9000_3
       have hx133_0 := HX9000_0.out
       have hx133_1 := HX9000_1.out
       have hx133_2 := HX9000_2.out
       have hx133_3 := HX9000_3.out
       have hw133_3 := hx133_3
       have hw133_2 := hx133_2
       have hw133_1 := hx133_1
       have hw133_0 := hx133_0
       replace hx133_0 := cB HB.out hx133_0
       replace hx133_1 := cB HB.out hx133_1
       replace hx133_2 := cB HB.out hx133_2
       replace hx133_3 := cB HB.out hx133_3
       have HR133_3 := HR9000_3
       have HC133_3 := HC9000_3
       have hx135_0 := HX9000_0.out
       have hx135_1 := HX9000_1.out
       have hx135_2 := HX9000_2.out
       have hx135_3 := HX9000_3.out
       have hw135_3 := hx135_3
       have hw135_2 := hx135_2
       have hw135_1 := hx135_1
       have hw135_0 := hx135_0
       replace hx135_0 := cB HB.out hx135_0
       replace hx135_1 := cB HB.out hx135_1
       replace hx135_2 := cB HB.out hx135_2
       replace hx135_3 := cB HB.out hx135_3
       have HR135_3 := HR9000_3
       have HC135_3 := HC9000_3
       have p136 : 0 ≤ ((ji8) : Int) := dA
       have q136 : (ji8) < (((rd_T27 l0_0 a0_1).f3).length : Int) := dA
       obtain ⟨ad136, e136, hx136_0⟩ := Kd.at_string HR135_3.out (ji8) p136 q136
       have hw136_0 := hx136_0
       cases e136
       replace hx136_0 := cB HB.out hx136_0
       replace p136 := eq_true p136
       replace q136 := eq_true q136
       have hx137_0 := HX9000_0.out
       have hx137_1 := HX9000_1.out
       have hx137_2 := HX9000_2.out
       have hx137_3 := HX9000_3.out
       have hw137_3 := hx137_3
       have hw137_2 := hx137_2
       have hw137_1 := hx137_1
       have hw137_0 := hx137_0
       replace hx137_0 := cB HB.out hx137_0
       replace hx137_1 := cB HB.out hx137_1
       replace hx137_2 := cB HB.out hx137_2
       replace hx137_3 := cB HB.out hx137_3
       have HR137_3 := HR9000_3
       have HC137_3 := HC9000_3
       refine start_ (n := 40) (S := fun w' => w'.cell? (ad0_.add ((a0_1).toNat * 4)) = some (.int .i64 ((rd_T27 l0_0 a0_1).f0)) ∧ w'.cell? ⟨(ad0_.add ((a0_1).toNat * 4)).block, (ad0_.add ((a0_1).toNat * 4)).off + 1, none⟩ = some (.int .i64 ((rd_T27 l0_0 a0_1).f1)) ∧ w'.cell? ⟨(ad0_.add ((a0_1).toNat * 4)).block, (ad0_.add ((a0_1).toNat * 4)).off + 2, none⟩ = some (.int .i64 ((rd_T27 l0_0 a0_1).f2)) ∧ w'.cell? ⟨(ad0_.add ((a0_1).toNat * 4)).block, (ad0_.add ((a0_1).toNat * 4)).off + 3, none⟩ = some (.slice (some ad136) ((rd_T27 l0_0 a0_1).f3).length c9000_3) ∧ w'.cell? (ad0_.add ((a0_1).toNat * 4)) = some (.int .i64 ((rd_T27 l0_0 a0_1).f0)) ∧ w'.cell? ⟨(ad0_.add ((a0_1).toNat * 4)).block, (ad0_.add ((a0_1).toNat * 4)).off + 1, none⟩ = some (.int .i64 ((rd_T27 l0_0 a0_1).f1)) ∧ w'.cell? ⟨(ad0_.add ((a0_1).toNat * 4)).block, (ad0_.add ((a0_1).toNat * 4)).off + 2, none⟩ = some (.int .i64 ((rd_T27 l0_0 a0_1).f2)) ∧ w'.cell? ⟨(ad0_.add ((a0_1).toNat * 4)).block, (ad0_.add ((a0_1).toNat * 4)).off + 3, none⟩ = some (.slice (some ad136) ((rd_T27 l0_0 a0_1).f3).length c9000_3) ∧ w'.cell? (ad0_.add ((a0_1).toNat * 4)) = some (.int .i64 ((rd_T27 l0_0 a0_1).f0)) ∧ w'.cell? ⟨(ad0_.add ((a0_1).toNat * 4)).block, (ad0_.add ((a0_1).toNat * 4)).off + 1, none⟩ = some (.int .i64 ((rd_T27 l0_0 a0_1).f1)) ∧ w'.cell? ⟨(ad0_.add ((a0_1).toNat * 4)).block, (ad0_.add ((a0_1).toNat * 4)).off + 2, none⟩ = some (.int .i64 ((rd_T27 l0_0 a0_1).f2)) ∧ w'.cell? ⟨(ad0_.add ((a0_1).toNat * 4)).block, (ad0_.add ((a0_1).toNat * 4)).off + 3, none⟩ = some (.slice (some ad136) ((rd_T27 l0_0 a0_1).f3).length c9000_3) ∧ w'.cell? (ad0_.add ((a0_1).toNat * 4)) = some (.int .i64 ((rd_T27 l0_0 a0_1).f0)) ∧ w'.cell? ⟨(ad0_.add ((a0_1).toNat * 4)).block, (ad0_.add ((a0_1).toNat * 4)).off + 1, none⟩ = some (.int .i64 ((rd_T27 l0_0 a0_1).f1)) ∧ w'.cell? ⟨(ad0_.add ((a0_1).toNat * 4)).block, (ad0_.add ((a0_1).toNat * 4)).off + 2, none⟩ = some (.int .i64 ((rd_T27 l0_0 a0_1).f2)) ∧ w'.cell? ⟨(ad0_.add ((a0_1).toNat * 4)).block, (ad0_.add ((a0_1).toNat * 4)).off + 3, none⟩ = some (.slice (some ad136) ((rd_T27 l0_0 a0_1).f3).length c9000_3) ∧ w'.cell? (ad136.add ((ji8)).toNat) = some (.string (rdOf ByteArray.empty ((rd_T27 l0_0 a0_1).f3) (ji8))) ∧ w'.cell? (ad0_.add ((a0_1).toNat * 4)) = some (.int .i64 ((rd_T27 l0_0 a0_1).f0)) ∧ w'.cell? ⟨(ad0_.add ((a0_1).toNat * 4)).block, (ad0_.add ((a0_1).toNat * 4)).off + 1, none⟩ = some (.int .i64 ((rd_T27 l0_0 a0_1).f1)) ∧ w'.cell? ⟨(ad0_.add ((a0_1).toNat * 4)).block, (ad0_.add ((a0_1).toNat * 4)).off + 2, none⟩ = some (.int .i64 ((rd_T27 l0_0 a0_1).f2)) ∧ w'.cell? ⟨(ad0_.add ((a0_1).toNat * 4)).block, (ad0_.add ((a0_1).toNat * 4)).off + 3, none⟩ = some (.slice (some ad136) ((rd_T27 l0_0 a0_1).f3).length c9000_3)) (ds := []) mkspec_l22At_at_0 (by kernel_rfl) rfl rfl ⟨(cB HB.out hw130_0), (cB HB.out hw130_1), (cB HB.out hw130_2), (cB HB.out hw130_3), (cB HB.out hw132_0), (cB HB.out hw132_1), (cB HB.out hw132_2), (cB HB.out hw132_3), (cB HB.out hw133_0), (cB HB.out hw133_1), (cB HB.out hw133_2), (cB HB.out hw133_3), (cB HB.out hw135_0), (cB HB.out hw135_1), (cB HB.out hw135_2), (cB HB.out hw135_3), (cB HB.out hw136_0), (cB HB.out hw137_0), (cB HB.out hw137_1), (cB HB.out hw137_2), (cB HB.out hw137_3)⟩ (fun hHeld => ?_); refine with_tabW spec_l22At_at.tab2 spec_l22At_at.bits2 (fun HT_ HW_ => ?_)
       generalize w15.drew = w16 at HB HR130_3 HR132_3 HR133_3 HR135_3 HR137_3 hx130_0 hx130_1 hx130_2 hx130_3 hx132_0 hx132_1 hx132_2 hx132_3 hx133_0 hx133_1 hx133_2 hx133_3 hx135_0 hx135_1 hx135_2 hx135_3 hx136_0 hx137_0 hx137_1 hx137_2 hx137_3 hHeld ⊢
       refine pQ (i := 0) (N := some 21) mkspec_l22At_at_1 ?_
       refine pQ (i := 1) (N := some 22) mkspec_l22At_at_2 ?_
       refine pQ (i := 2) (N := some 23) mkspec_l22At_at_3 ?_
       refine pQ (i := 3) (N := some 24) mkspec_l22At_at_4 ?_
       refine tQ (i := 4) (N := some 25) mkspec_l22At_at_5 rfl hHeld (Or.inl ⟨by rfl, by rintro w' ⟨s0, s1, s2, s3, s4, s5, s6, s7, s8, s9, s10, s11, s12, s13, s14, s15, s16, s17, s18, s19, s20⟩; go_simp; with_reducible rfl⟩) ?_
       refine pQ (i := 5) (N := some 26) mkspec_l22At_at_6 ?_
       refine pQ (i := 6) (N := some 27) mkspec_l22At_at_7 ?_
       refine one_ (i := 7) (N := some 28) mkspec_l22At_at_8 rfl rfl (one_of HT_.out (by kernel_rfl)) (by decide) (fun K hK => ?_)
       refine goes_ Tryd.func33 (by kernel_rfl) rfl #[.int .i64 ji8, .int .i64 0, .int .i64 (wrap64 ((((rd_T27 l0_0 a0_1).f3).length : Int) - 1))] (by rfl) rfl rfl (by (try simp only [List.map_toArray, List.map_cons, List.map_nil]); first | done | (simp only [hji8]; rfl) | rfl | (simp only [List.length_drop, List.length_take]; rfl)) ?_
       with_reducible refine (spec_l00In.calls ji8 0 (wrap64 ((((rd_T27 l0_0 a0_1).f3).length : Int) - 1)) true _ A4.out).mono ?_
       rintro e w' ⟨rfl, ⟨nd, rfl⟩⟩
       refine ⟨_, rfl, ?_⟩
       refine hK.out _ _ ⟨(cB HB.out hw130_0), (cB HB.out hw130_1), (cB HB.out hw130_2), (cB HB.out hw130_3), (cB HB.out hw132_0), (cB HB.out hw132_1), (cB HB.out hw132_2), (cB HB.out hw132_3), (cB HB.out hw133_0), (cB HB.out hw133_1), (cB HB.out hw133_2), (cB HB.out hw133_3), (cB HB.out hw135_0), (cB HB.out hw135_1), (cB HB.out hw135_2), (cB HB.out hw135_3), (cB HB.out hw136_0), (cB HB.out hw137_0), (cB HB.out hw137_1), (cB HB.out hw137_2), (cB HB.out hw137_3)⟩ (fun hHeld => ?_)
       clear hK K
       refine norm_ (a' := ?_) ?_ ?_
       rotate_left
       ·show Act.put _ (some 28) _ = _
        simp only [Act.put, sI, sZ, sS, i64_w, i32_w]
        rfl
       refine pQ (i := 8) (N := some 29) mkspec_l22At_at_9 ?_
       refine pQ (i := 9) (N := some 30) mkspec_l22At_at_10 ?_
       refine pQ (i := 10) (N := some 31) mkspec_l22At_at_11 ?_
       refine pQ (i := 11) (N := some 32) mkspec_l22At_at_12 ?_
       refine pQ (i := 12) (N := some 33) mkspec_l22At_at_13 ?_
       refine pQ (i := 15) (N := some 36) mkspec_l22At_at_14 ?_
       refine pQ (i := 16) (N := some 37) mkspec_l22At_at_16 ?_
       refine pQ (i := 17) (N := some 38) mkspec_l22At_at_18 ?_
       refine tQ (i := 13) (N := some 34) mkspec_l22At_at_20 rfl hHeld (Or.inl ⟨by rfl, by rintro w' ⟨s0, s1, s2, s3, s4, s5, s6, s7, s8, s9, s10, s11, s12, s13, s14, s15, s16, s17, s18, s19, s20⟩; go_simp; with_reducible rfl⟩) ?_
       refine pQ (i := 14) (N := some 35) mkspec_l22At_at_22 ?_
       refine tQ (i := 18) (N := some 39) mkspec_l22At_at_23 rfl hHeld (Or.inl ⟨by rfl, by rintro w' ⟨s0, s1, s2, s3, s4, s5, s6, s7, s8, s9, s10, s11, s12, s13, s14, s15, s16, s17, s18, s19, s20⟩; go_simp; with_reducible rfl⟩) ?_
       refine pQ (i := 19) (N := some 40) mkspec_l22At_at_24 ?_
       refine one_ (i := 20) (N := some 41) mkspec_l22At_at_25 rfl rfl (one_of HT_.out (by kernel_rfl)) (by decide) (fun K hK => ?_)
       refine goes_ Tryd.func33 (by kernel_rfl) rfl #[.int .i64 ji11, .int .i64 0, .int .i64 (wrap64 (((rd_T27 l0_0 a0_1).f2) - 1))] (by rfl) rfl rfl (by (try simp only [List.map_toArray, List.map_cons, List.map_nil]); first | done | (simp only [hji11]; rfl) | rfl | (simp only [List.length_drop, List.length_take]; rfl)) ?_
       with_reducible refine (spec_l00In.calls ji11 0 (wrap64 (((rd_T27 l0_0 a0_1).f2) - 1)) true _ A6.out).mono ?_
       rintro e w' ⟨rfl, ⟨nd, rfl⟩⟩
       refine ⟨_, rfl, ?_⟩
       have p14 : 0 ≤ ((ji11) : Int) := dA
       have q14 : (ji11) < ((rdOf ByteArray.empty ((rd_T27 l0_0 a0_1).f3) (ji8)).size : Int) := dA
       have hx14 := bt_at (rdOf ByteArray.empty ((rd_T27 l0_0 a0_1).f3) (ji8)) (ji11)
       replace p14 := eq_true p14
       replace q14 := eq_true q14
       refine hK.out _ _ ⟨(cB HB.out hw130_0), (cB HB.out hw130_1), (cB HB.out hw130_2), (cB HB.out hw130_3), (cB HB.out hw132_0), (cB HB.out hw132_1), (cB HB.out hw132_2), (cB HB.out hw132_3), (cB HB.out hw133_0), (cB HB.out hw133_1), (cB HB.out hw133_2), (cB HB.out hw133_3), (cB HB.out hw135_0), (cB HB.out hw135_1), (cB HB.out hw135_2), (cB HB.out hw135_3), (cB HB.out hw136_0), (cB HB.out hw137_0), (cB HB.out hw137_1), (cB HB.out hw137_2), (cB HB.out hw137_3)⟩ (fun hHeld => ?_)
       clear hK K
       refine norm_ (a' := ?_) ?_ ?_
       rotate_left
       ·show Act.put _ (some 41) _ = _
        simp only [Act.put, sI, sZ, sS, i64_w, i32_w]
        rfl
       refine pQ (i := 21) (N := some 42) mkspec_l22At_at_26 ?_
       refine pQ (i := 22) (N := some 43) mkspec_l22At_at_27 ?_
       refine pQ (i := 23) (N := some 44) mkspec_l22At_at_28 ?_
       refine pQ (i := 24) (N := some 45) mkspec_l22At_at_29 ?_
       refine pQ (i := 25) (N := some 46) mkspec_l22At_at_30 ?_
       refine pQ (i := 27) (N := some 48) mkspec_l22At_at_31 ?_
       refine pQ (i := 30) (N := some 51) mkspec_l22At_at_33 ?_
       refine pQ (i := 31) (N := some 52) mkspec_l22At_at_35 ?_
       refine pQ (i := 32) (N := some 53) mkspec_l22At_at_37 ?_
       refine pQ (i := 33) (N := some 54) mkspec_l22At_at_39 ?_
       refine tQ (i := 26) (N := some 47) mkspec_l22At_at_41 rfl hHeld (Or.inl ⟨by rfl, by rintro w' ⟨s0, s1, s2, s3, s4, s5, s6, s7, s8, s9, s10, s11, s12, s13, s14, s15, s16, s17, s18, s19, s20⟩; go_simp; with_reducible rfl⟩) ?_
       refine pQ (i := 28) (N := some 49) mkspec_l22At_at_43 ?_
       refine tQ (i := 29) (N := some 50) mkspec_l22At_at_45 rfl hHeld (Or.inl ⟨by rfl, by rintro w' ⟨s0, s1, s2, s3, s4, s5, s6, s7, s8, s9, s10, s11, s12, s13, s14, s15, s16, s17, s18, s19, s20⟩; go_simp; with_reducible rfl⟩) ?_
       refine tQ (i := 34) (N := some 55) mkspec_l22At_at_46 rfl hHeld (Or.inl ⟨by rfl, by rintro w' ⟨s0, s1, s2, s3, s4, s5, s6, s7, s8, s9, s10, s11, s12, s13, s14, s15, s16, s17, s18, s19, s20⟩; go_simp; with_reducible rfl⟩) ?_
       refine pQ (i := 35) (N := some 56) mkspec_l22At_at_47 ?_
       refine tQ (i := 36) (N := some 57) mkspec_l22At_at_48 rfl hHeld (Or.inl ⟨by rfl, by rintro w' ⟨s0, s1, s2, s3, s4, s5, s6, s7, s8, s9, s10, s11, s12, s13, s14, s15, s16, s17, s18, s19, s20⟩; go_simp; with_reducible rfl⟩) ?_
       refine pQ (i := 37) (N := some 58) mkspec_l22At_at_49 ?_
       refine pQ (i := 38) (N := some 59) mkspec_l22At_at_50 ?_
       refine pQ (i := 39) (N := some 6) mkspec_l22At_at_51 ?_
       refine done_ (done_of HT_.out (by kernel_rfl)) ?_
       try go_wp2
       go_ret
       exact ⟨by first | rfl | (simp [errW_none, errW_some] <;> rfl) | (simp only [← hji8, ← hji11]; first | rfl | (simp [errW_none, errW_some] <;> rfl)) | (simp [*, errW_none, errW_some] <;> rfl), bQ⟩
      ·rw [if_neg c13] at H
       exact absurd H (by simp)
     ·rw [if_neg c12] at H
      exact absurd H (by simp)
    ·rw [if_neg c10] at H
     exact absurd H (by simp)
   ·rw [if_neg c9] at H
    exact absurd H (by simp)
  ·replace c7 := Bool.eq_false_iff.mpr c7
   subst c7
   have H1 : (some false) = some r := by rw [if_neg (show ¬ (false = true) by decide)] at H; exact H
   clear H
   have H := H1
   clear H1
   obtain rfl := Option.some.inj H
   go_enter Tryd.func34, Tryd.ntmps34
   try go_wp2
   have n0_ := aM (below_drew1 HB.out)
   clear HB
   have HB := n0_
   clear n0_
   have hx128_0 := HX9000_0.out
   have hx128_1 := HX9000_1.out
   have hx128_2 := HX9000_2.out
   have hx128_3 := HX9000_3.out
   have hw128_3 := hx128_3
   have hw128_2 := hx128_2
   have hw128_1 := hx128_1
   have hw128_0 := hx128_0
   replace hx128_0 := cB HB.out hx128_0
   replace hx128_1 := cB HB.out hx128_1
   replace hx128_2 := cB HB.out hx128_2
   replace hx128_3 := cB HB.out hx128_3
   have HR128_3 := HR9000_3
   have HC128_3 := HC9000_3
   have hx129_0 := HX9000_0.out
   have hx129_1 := HX9000_1.out
   have hx129_2 := HX9000_2.out
   have hx129_3 := HX9000_3.out
   have hw129_3 := hx129_3
   have hw129_2 := hx129_2
   have hw129_1 := hx129_1
   have hw129_0 := hx129_0
   replace hx129_0 := cB HB.out hx129_0
   replace hx129_1 := cB HB.out hx129_1
   replace hx129_2 := cB HB.out hx129_2
   replace hx129_3 := cB HB.out hx129_3
   have HR129_3 := HR9000_3
   have HC129_3 := HC9000_3
   refine start_ (n := 14) (S := fun w' => w'.cell? (ad0_.add ((a0_1).toNat * 4)) = some (.int .i64 ((rd_T27 l0_0 a0_1).f0)) ∧ w'.cell? ⟨(ad0_.add ((a0_1).toNat * 4)).block, (ad0_.add ((a0_1).toNat * 4)).off + 1, none⟩ = some (.int .i64 ((rd_T27 l0_0 a0_1).f1)) ∧ w'.cell? ⟨(ad0_.add ((a0_1).toNat * 4)).block, (ad0_.add ((a0_1).toNat * 4)).off + 2, none⟩ = some (.int .i64 ((rd_T27 l0_0 a0_1).f2)) ∧ w'.cell? ⟨(ad0_.add ((a0_1).toNat * 4)).block, (ad0_.add ((a0_1).toNat * 4)).off + 3, none⟩ = some (.slice A9000_3 ((rd_T27 l0_0 a0_1).f3).length c9000_3) ∧ w'.cell? (ad0_.add ((a0_1).toNat * 4)) = some (.int .i64 ((rd_T27 l0_0 a0_1).f0)) ∧ w'.cell? ⟨(ad0_.add ((a0_1).toNat * 4)).block, (ad0_.add ((a0_1).toNat * 4)).off + 1, none⟩ = some (.int .i64 ((rd_T27 l0_0 a0_1).f1)) ∧ w'.cell? ⟨(ad0_.add ((a0_1).toNat * 4)).block, (ad0_.add ((a0_1).toNat * 4)).off + 2, none⟩ = some (.int .i64 ((rd_T27 l0_0 a0_1).f2)) ∧ w'.cell? ⟨(ad0_.add ((a0_1).toNat * 4)).block, (ad0_.add ((a0_1).toNat * 4)).off + 3, none⟩ = some (.slice A9000_3 ((rd_T27 l0_0 a0_1).f3).length c9000_3)) (ds := []) mkspec_l22At_at_52 (by kernel_rfl) rfl rfl ⟨(cB HB.out hw128_0), (cB HB.out hw128_1), (cB HB.out hw128_2), (cB HB.out hw128_3), (cB HB.out hw129_0), (cB HB.out hw129_1), (cB HB.out hw129_2), (cB HB.out hw129_3)⟩ (fun hHeld => ?_); refine with_tabW spec_l22At_at.tab1 spec_l22At_at.bits1 (fun HT_ HW_ => ?_)
   generalize w.drew = w17 at HB HR128_3 HR129_3 hx128_0 hx128_1 hx128_2 hx128_3 hx129_0 hx129_1 hx129_2 hx129_3 hHeld ⊢
   refine pQ (i := 0) (N := some 8) mkspec_l22At_at_53 ?_
   refine pQ (i := 1) (N := some 9) mkspec_l22At_at_54 ?_
   refine pQ (i := 2) (N := some 10) mkspec_l22At_at_55 ?_
   refine pQ (i := 6) (N := some 14) mkspec_l22At_at_56 ?_
   refine pQ (i := 7) (N := some 15) mkspec_l22At_at_57 ?_
   refine pQ (i := 8) (N := some 16) mkspec_l22At_at_58 ?_
   refine pQ (i := 9) (N := some 17) mkspec_l22At_at_59 ?_
   refine tQ (i := 3) (N := some 11) mkspec_l22At_at_60 rfl hHeld (Or.inl ⟨by rfl, by rintro w' ⟨s0, s1, s2, s3, s4, s5, s6, s7⟩; go_simp; with_reducible rfl⟩) ?_
   refine pQ (i := 4) (N := some 12) mkspec_l22At_at_61 ?_
   refine pQ (i := 5) (N := some 13) mkspec_l22At_at_62 ?_
   refine tQ (i := 10) (N := some 18) mkspec_l22At_at_63 rfl hHeld (Or.inl ⟨by rfl, by rintro w' ⟨s0, s1, s2, s3, s4, s5, s6, s7⟩; go_simp; with_reducible rfl⟩) ?_
   refine pQ (i := 11) (N := some 19) mkspec_l22At_at_64 ?_
   refine pQ (i := 12) (N := some 20) mkspec_l22At_at_65 ?_
   refine pQ (i := 13) (N := some 7) mkspec_l22At_at_66 ?_
   refine done_ (done_of HT_.out (by kernel_rfl)) ?_
   try go_wp2
   have n0_ := aM (below_drew1 HB.out)
   clear HB
   have HB := n0_
   clear n0_
   have hx130_0 := HX9000_0.out
   have hx130_1 := HX9000_1.out
   have hx130_2 := HX9000_2.out
   have hx130_3 := HX9000_3.out
   have hw130_3 := hx130_3
   have hw130_2 := hx130_2
   have hw130_1 := hx130_1
   have hw130_0 := hx130_0
   replace hx130_0 := cB HB.out hx130_0
   replace hx130_1 := cB HB.out hx130_1
   replace hx130_2 := cB HB.out hx130_2
   replace hx130_3 := cB HB.out hx130_3
   have HR130_3 := HR9000_3
   have HC130_3 := HC9000_3
   have hx132_0 := HX9000_0.out
   have hx132_1 := HX9000_1.out
   have hx132_2 := HX9000_2.out
   have hx132_3 := HX9000_3.out
   have hw132_3 := hx132_3
   have hw132_2 := hx132_2
   have hw132_1 := hx132_1
   have hw132_0 := hx132_0
   replace hx132_0 := cB HB.out hx132_0
   replace hx132_1 := cB HB.out hx132_1
   replace hx132_2 := cB HB.out hx132_2
   replace hx132_3 := cB HB.out hx132_3
   have HR132_3 := HR9000_3
   have HC132_3 := HC9000_3
   have hx133_0 := HX9000_0.out
   have hx133_1 := HX9000_1.out
   have hx133_2 := HX9000_2.out
   have hx133_3 := HX9000_3.out
   have hw133_3 := hx133_3
   have hw133_2 := hx133_2
   have hw133_1 := hx133_1
   have hw133_0 := hx133_0
   replace hx133_0 := cB HB.out hx133_0
   replace hx133_1 := cB HB.out hx133_1
   replace hx133_2 := cB HB.out hx133_2
   replace hx133_3 := cB HB.out hx133_3
   have HR133_3 := HR9000_3
   have HC133_3 := HC9000_3
   refine start_ (n := 40) (S := fun w' => w'.cell? (ad0_.add ((a0_1).toNat * 4)) = some (.int .i64 ((rd_T27 l0_0 a0_1).f0)) ∧ w'.cell? ⟨(ad0_.add ((a0_1).toNat * 4)).block, (ad0_.add ((a0_1).toNat * 4)).off + 1, none⟩ = some (.int .i64 ((rd_T27 l0_0 a0_1).f1)) ∧ w'.cell? ⟨(ad0_.add ((a0_1).toNat * 4)).block, (ad0_.add ((a0_1).toNat * 4)).off + 2, none⟩ = some (.int .i64 ((rd_T27 l0_0 a0_1).f2)) ∧ w'.cell? ⟨(ad0_.add ((a0_1).toNat * 4)).block, (ad0_.add ((a0_1).toNat * 4)).off + 3, none⟩ = some (.slice A9000_3 ((rd_T27 l0_0 a0_1).f3).length c9000_3) ∧ w'.cell? (ad0_.add ((a0_1).toNat * 4)) = some (.int .i64 ((rd_T27 l0_0 a0_1).f0)) ∧ w'.cell? ⟨(ad0_.add ((a0_1).toNat * 4)).block, (ad0_.add ((a0_1).toNat * 4)).off + 1, none⟩ = some (.int .i64 ((rd_T27 l0_0 a0_1).f1)) ∧ w'.cell? ⟨(ad0_.add ((a0_1).toNat * 4)).block, (ad0_.add ((a0_1).toNat * 4)).off + 2, none⟩ = some (.int .i64 ((rd_T27 l0_0 a0_1).f2)) ∧ w'.cell? ⟨(ad0_.add ((a0_1).toNat * 4)).block, (ad0_.add ((a0_1).toNat * 4)).off + 3, none⟩ = some (.slice A9000_3 ((rd_T27 l0_0 a0_1).f3).length c9000_3) ∧ w'.cell? (ad0_.add ((a0_1).toNat * 4)) = some (.int .i64 ((rd_T27 l0_0 a0_1).f0)) ∧ w'.cell? ⟨(ad0_.add ((a0_1).toNat * 4)).block, (ad0_.add ((a0_1).toNat * 4)).off + 1, none⟩ = some (.int .i64 ((rd_T27 l0_0 a0_1).f1)) ∧ w'.cell? ⟨(ad0_.add ((a0_1).toNat * 4)).block, (ad0_.add ((a0_1).toNat * 4)).off + 2, none⟩ = some (.int .i64 ((rd_T27 l0_0 a0_1).f2)) ∧ w'.cell? ⟨(ad0_.add ((a0_1).toNat * 4)).block, (ad0_.add ((a0_1).toNat * 4)).off + 3, none⟩ = some (.slice A9000_3 ((rd_T27 l0_0 a0_1).f3).length c9000_3)) (ds := []) mkspec_l22At_at_0 (by kernel_rfl) rfl rfl ⟨(cB HB.out hw130_0), (cB HB.out hw130_1), (cB HB.out hw130_2), (cB HB.out hw130_3), (cB HB.out hw132_0), (cB HB.out hw132_1), (cB HB.out hw132_2), (cB HB.out hw132_3), (cB HB.out hw133_0), (cB HB.out hw133_1), (cB HB.out hw133_2), (cB HB.out hw133_3)⟩ (fun hHeld => ?_); refine with_tabW spec_l22At_at.tab2 spec_l22At_at.bits2 (fun HT_ HW_ => ?_)
   generalize w17.drew = w18 at HB HR130_3 HR132_3 HR133_3 hx130_0 hx130_1 hx130_2 hx130_3 hx132_0 hx132_1 hx132_2 hx132_3 hx133_0 hx133_1 hx133_2 hx133_3 hHeld ⊢
   refine pQ (i := 0) (N := some 21) mkspec_l22At_at_1 ?_
   refine pQ (i := 1) (N := some 22) mkspec_l22At_at_2 ?_
   refine pQ (i := 2) (N := some 23) mkspec_l22At_at_3 ?_
   refine pQ (i := 3) (N := some 24) mkspec_l22At_at_4 ?_
   refine tQ (i := 4) (N := some 25) mkspec_l22At_at_5 rfl hHeld (Or.inl ⟨by rfl, by rintro w' ⟨s0, s1, s2, s3, s4, s5, s6, s7, s8, s9, s10, s11⟩; go_simp; with_reducible rfl⟩) ?_
   refine pQ (i := 5) (N := some 26) mkspec_l22At_at_6 ?_
   refine pQ (i := 6) (N := some 27) mkspec_l22At_at_7 ?_
   refine one_ (i := 7) (N := some 28) mkspec_l22At_at_8 rfl rfl (one_of HT_.out (by kernel_rfl)) (by decide) (fun K hK => ?_)
   refine goes_ Tryd.func33 (by kernel_rfl) rfl #[.int .i64 (wrap64 ((wrap64 ((((rd_T27 l0_0 a0_1).f3).length : Int) - 1)) - (wrap64 (a2 - ((rd_T27 l0_0 a0_1).f1))))), .int .i64 0, .int .i64 (wrap64 ((((rd_T27 l0_0 a0_1).f3).length : Int) - 1))] (by rfl) rfl rfl gQ ?_
   with_reducible refine (spec_l00In.calls (wrap64 ((wrap64 ((((rd_T27 l0_0 a0_1).f3).length : Int) - 1)) - (wrap64 (a2 - ((rd_T27 l0_0 a0_1).f1))))) 0 (wrap64 ((((rd_T27 l0_0 a0_1).f3).length : Int) - 1)) true _ A4.out).mono ?_
   rintro e w' ⟨rfl, ⟨nd, rfl⟩⟩
   refine ⟨_, rfl, ?_⟩
   refine hK.out _ _ ⟨(cB HB.out hw130_0), (cB HB.out hw130_1), (cB HB.out hw130_2), (cB HB.out hw130_3), (cB HB.out hw132_0), (cB HB.out hw132_1), (cB HB.out hw132_2), (cB HB.out hw132_3), (cB HB.out hw133_0), (cB HB.out hw133_1), (cB HB.out hw133_2), (cB HB.out hw133_3)⟩ (fun hHeld => ?_)
   clear hK K
   refine norm_ (a' := ?_) ?_ ?_
   rotate_left
   ·show Act.put _ (some 28) _ = _
    simp only [Act.put, sI, sZ, sS, i64_w, i32_w]
    rfl
   refine pQ (i := 8) (N := some 29) mkspec_l22At_at_9 ?_
   refine pQ (i := 9) (N := some 30) mkspec_l22At_at_10 ?_
   refine pQ (i := 10) (N := some 31) mkspec_l22At_at_11 ?_
   refine pQ (i := 11) (N := some 32) mkspec_l22At_at_12 ?_
   refine pQ (i := 12) (N := some 33) mkspec_l22At_at_13 ?_
   refine pQ (i := 15) (N := some 36) mkspec_l22At_at_14 ?_
   refine pQ (i := 16) (N := some 37) mkspec_l22At_at_16 ?_
   refine pQ (i := 17) (N := some 38) mkspec_l22At_at_18 ?_
   refine tQ (i := 13) (N := some 34) mkspec_l22At_at_20 rfl hHeld (Or.inl ⟨by rfl, by rintro w' ⟨s0, s1, s2, s3, s4, s5, s6, s7, s8, s9, s10, s11⟩; go_simp; with_reducible rfl⟩) ?_
   refine pQ (i := 14) (N := some 35) mkspec_l22At_at_22 ?_
   refine tQ (i := 18) (N := some 39) mkspec_l22At_at_23 rfl hHeld (Or.inl ⟨by rfl, by rintro w' ⟨s0, s1, s2, s3, s4, s5, s6, s7, s8, s9, s10, s11⟩; go_simp; with_reducible rfl⟩) ?_
   refine pQ (i := 19) (N := some 40) mkspec_l22At_at_24 ?_
   refine one_ (i := 20) (N := some 41) mkspec_l22At_at_25 rfl rfl (one_of HT_.out (by kernel_rfl)) (by decide) (fun K hK => ?_)
   refine goes_ Tryd.func33 (by kernel_rfl) rfl #[.int .i64 (wrap64 (a1 - ((rd_T27 l0_0 a0_1).f0))), .int .i64 0, .int .i64 (wrap64 (((rd_T27 l0_0 a0_1).f2) - 1))] (by rfl) rfl rfl gQ ?_
   with_reducible refine (spec_l00In.calls (wrap64 (a1 - ((rd_T27 l0_0 a0_1).f0))) 0 (wrap64 (((rd_T27 l0_0 a0_1).f2) - 1)) false _ A6.out).mono ?_
   rintro e w' ⟨rfl, ⟨nd, rfl⟩⟩
   refine ⟨_, rfl, ?_⟩
   refine hK.out _ _ ⟨(cB HB.out hw130_0), (cB HB.out hw130_1), (cB HB.out hw130_2), (cB HB.out hw130_3), (cB HB.out hw132_0), (cB HB.out hw132_1), (cB HB.out hw132_2), (cB HB.out hw132_3), (cB HB.out hw133_0), (cB HB.out hw133_1), (cB HB.out hw133_2), (cB HB.out hw133_3)⟩ (fun hHeld => ?_)
   clear hK K
   refine norm_ (a' := ?_) ?_ ?_
   rotate_left
   ·show Act.put _ (some 41) _ = _
    simp only [Act.put, sI, sZ, sS, i64_w, i32_w]
    rfl
   refine pQ (i := 21) (N := some 42) mkspec_l22At_at_26 ?_
   refine pQ (i := 22) (N := some 43) mkspec_l22At_at_27 ?_
   refine uQ (i := 23) (N := some 44) mkspec_l22At_at_28 ?_
   refine uQ (i := 24) (N := some 45) mkspec_l22At_at_29 ?_
   refine uQ (i := 25) (N := some 46) mkspec_l22At_at_30 ?_
   refine uQ (i := 26) (N := some 47) mkspec_l22At_at_32 ?_
   refine uQ (i := 27) (N := some 48) mkspec_l22At_at_34 ?_
   refine uQ (i := 28) (N := some 49) mkspec_l22At_at_36 ?_
   refine uQ (i := 29) (N := some 50) mkspec_l22At_at_38 ?_
   refine uQ (i := 30) (N := some 51) mkspec_l22At_at_40 ?_
   refine uQ (i := 31) (N := some 52) mkspec_l22At_at_42 ?_
   refine uQ (i := 32) (N := some 53) mkspec_l22At_at_44 ?_
   refine uQ (i := 33) (N := some 54) mkspec_l22At_at_45 ?_
   refine uQ (i := 34) (N := some 55) mkspec_l22At_at_46 ?_
   refine uQ (i := 35) (N := some 56) mkspec_l22At_at_47 ?_
   refine uQ (i := 36) (N := some 57) mkspec_l22At_at_48 ?_
   refine uQ (i := 37) (N := some 58) mkspec_l22At_at_49 ?_
   refine pQ (i := 38) (N := some 59) mkspec_l22At_at_50 ?_
   refine pQ (i := 39) (N := some 6) mkspec_l22At_at_51 ?_
   refine done_ (done_of HT_.out (by kernel_rfl)) ?_
   try go_wp2
   go_ret
   exact ⟨eQ, bQ⟩
 ·replace c5 := Bool.eq_false_iff.mpr c5
  subst c5
  have H1 : (some false) = some r := by rw [if_neg (show ¬ (false = true) by decide)] at H; exact H
  clear H
  have H := H1
  clear H1
  obtain rfl := Option.some.inj H
  go_enter Tryd.func34, Tryd.ntmps34
  try go_wp2
  have n0_ := aM (below_drew1 HB.out)
  clear HB
  have HB := n0_
  clear n0_
  have hx128_0 := HX9000_0.out
  have hx128_1 := HX9000_1.out
  have hx128_2 := HX9000_2.out
  have hx128_3 := HX9000_3.out
  have hw128_3 := hx128_3
  have hw128_2 := hx128_2
  have hw128_1 := hx128_1
  have hw128_0 := hx128_0
  replace hx128_0 := cB HB.out hx128_0
  replace hx128_1 := cB HB.out hx128_1
  replace hx128_2 := cB HB.out hx128_2
  replace hx128_3 := cB HB.out hx128_3
  have HR128_3 := HR9000_3
  have HC128_3 := HC9000_3
  have hx129_0 := HX9000_0.out
  have hx129_1 := HX9000_1.out
  have hx129_2 := HX9000_2.out
  have hx129_3 := HX9000_3.out
  have hw129_3 := hx129_3
  have hw129_2 := hx129_2
  have hw129_1 := hx129_1
  have hw129_0 := hx129_0
  replace hx129_0 := cB HB.out hx129_0
  replace hx129_1 := cB HB.out hx129_1
  replace hx129_2 := cB HB.out hx129_2
  replace hx129_3 := cB HB.out hx129_3
  have HR129_3 := HR9000_3
  have HC129_3 := HC9000_3
  refine start_ (n := 14) (S := fun w' => w'.cell? (ad0_.add ((a0_1).toNat * 4)) = some (.int .i64 ((rd_T27 l0_0 a0_1).f0)) ∧ w'.cell? ⟨(ad0_.add ((a0_1).toNat * 4)).block, (ad0_.add ((a0_1).toNat * 4)).off + 1, none⟩ = some (.int .i64 ((rd_T27 l0_0 a0_1).f1)) ∧ w'.cell? ⟨(ad0_.add ((a0_1).toNat * 4)).block, (ad0_.add ((a0_1).toNat * 4)).off + 2, none⟩ = some (.int .i64 ((rd_T27 l0_0 a0_1).f2)) ∧ w'.cell? ⟨(ad0_.add ((a0_1).toNat * 4)).block, (ad0_.add ((a0_1).toNat * 4)).off + 3, none⟩ = some (.slice A9000_3 ((rd_T27 l0_0 a0_1).f3).length c9000_3) ∧ w'.cell? (ad0_.add ((a0_1).toNat * 4)) = some (.int .i64 ((rd_T27 l0_0 a0_1).f0)) ∧ w'.cell? ⟨(ad0_.add ((a0_1).toNat * 4)).block, (ad0_.add ((a0_1).toNat * 4)).off + 1, none⟩ = some (.int .i64 ((rd_T27 l0_0 a0_1).f1)) ∧ w'.cell? ⟨(ad0_.add ((a0_1).toNat * 4)).block, (ad0_.add ((a0_1).toNat * 4)).off + 2, none⟩ = some (.int .i64 ((rd_T27 l0_0 a0_1).f2)) ∧ w'.cell? ⟨(ad0_.add ((a0_1).toNat * 4)).block, (ad0_.add ((a0_1).toNat * 4)).off + 3, none⟩ = some (.slice A9000_3 ((rd_T27 l0_0 a0_1).f3).length c9000_3)) (ds := []) mkspec_l22At_at_52 (by kernel_rfl) rfl rfl ⟨(cB HB.out hw128_0), (cB HB.out hw128_1), (cB HB.out hw128_2), (cB HB.out hw128_3), (cB HB.out hw129_0), (cB HB.out hw129_1), (cB HB.out hw129_2), (cB HB.out hw129_3)⟩ (fun hHeld => ?_); refine with_tabW spec_l22At_at.tab1 spec_l22At_at.bits1 (fun HT_ HW_ => ?_)
  generalize w.drew = w19 at HB HR128_3 HR129_3 hx128_0 hx128_1 hx128_2 hx128_3 hx129_0 hx129_1 hx129_2 hx129_3 hHeld ⊢
  refine pQ (i := 0) (N := some 8) mkspec_l22At_at_53 ?_
  refine pQ (i := 1) (N := some 9) mkspec_l22At_at_54 ?_
  refine pQ (i := 2) (N := some 10) mkspec_l22At_at_55 ?_
  refine pQ (i := 6) (N := some 14) mkspec_l22At_at_56 ?_
  refine pQ (i := 7) (N := some 15) mkspec_l22At_at_57 ?_
  refine pQ (i := 8) (N := some 16) mkspec_l22At_at_58 ?_
  refine pQ (i := 9) (N := some 17) mkspec_l22At_at_59 ?_
  refine tQ (i := 3) (N := some 11) mkspec_l22At_at_60 rfl hHeld (Or.inl ⟨by rfl, by rintro w' ⟨s0, s1, s2, s3, s4, s5, s6, s7⟩; go_simp; with_reducible rfl⟩) ?_
  refine pQ (i := 4) (N := some 12) mkspec_l22At_at_61 ?_
  refine pQ (i := 5) (N := some 13) mkspec_l22At_at_62 ?_
  refine tQ (i := 10) (N := some 18) mkspec_l22At_at_63 rfl hHeld (Or.inl ⟨by rfl, by rintro w' ⟨s0, s1, s2, s3, s4, s5, s6, s7⟩; go_simp; with_reducible rfl⟩) ?_
  refine pQ (i := 11) (N := some 19) mkspec_l22At_at_64 ?_
  refine pQ (i := 12) (N := some 20) mkspec_l22At_at_65 ?_
  refine pQ (i := 13) (N := some 7) mkspec_l22At_at_66 ?_
  refine done_ (done_of HT_.out (by kernel_rfl)) ?_
  try go_wp2
  have n0_ := aM (below_drew1 HB.out)
  clear HB
  have HB := n0_
  clear n0_
  have hx130_0 := HX9000_0.out
  have hx130_1 := HX9000_1.out
  have hx130_2 := HX9000_2.out
  have hx130_3 := HX9000_3.out
  have hw130_3 := hx130_3
  have hw130_2 := hx130_2
  have hw130_1 := hx130_1
  have hw130_0 := hx130_0
  replace hx130_0 := cB HB.out hx130_0
  replace hx130_1 := cB HB.out hx130_1
  replace hx130_2 := cB HB.out hx130_2
  replace hx130_3 := cB HB.out hx130_3
  have HR130_3 := HR9000_3
  have HC130_3 := HC9000_3
  refine start_ (n := 40) (S := fun w' => w'.cell? (ad0_.add ((a0_1).toNat * 4)) = some (.int .i64 ((rd_T27 l0_0 a0_1).f0)) ∧ w'.cell? ⟨(ad0_.add ((a0_1).toNat * 4)).block, (ad0_.add ((a0_1).toNat * 4)).off + 1, none⟩ = some (.int .i64 ((rd_T27 l0_0 a0_1).f1)) ∧ w'.cell? ⟨(ad0_.add ((a0_1).toNat * 4)).block, (ad0_.add ((a0_1).toNat * 4)).off + 2, none⟩ = some (.int .i64 ((rd_T27 l0_0 a0_1).f2)) ∧ w'.cell? ⟨(ad0_.add ((a0_1).toNat * 4)).block, (ad0_.add ((a0_1).toNat * 4)).off + 3, none⟩ = some (.slice A9000_3 ((rd_T27 l0_0 a0_1).f3).length c9000_3)) (ds := []) mkspec_l22At_at_0 (by kernel_rfl) rfl rfl ⟨(cB HB.out hw130_0), (cB HB.out hw130_1), (cB HB.out hw130_2), (cB HB.out hw130_3)⟩ (fun hHeld => ?_); refine with_tabW spec_l22At_at.tab2 spec_l22At_at.bits2 (fun HT_ HW_ => ?_)
  generalize w19.drew = w20 at HB HR130_3 hx130_0 hx130_1 hx130_2 hx130_3 hHeld ⊢
  refine pQ (i := 0) (N := some 21) mkspec_l22At_at_1 ?_
  refine pQ (i := 1) (N := some 22) mkspec_l22At_at_2 ?_
  refine pQ (i := 2) (N := some 23) mkspec_l22At_at_3 ?_
  refine pQ (i := 3) (N := some 24) mkspec_l22At_at_4 ?_
  refine tQ (i := 4) (N := some 25) mkspec_l22At_at_5 rfl hHeld (Or.inl ⟨by rfl, by rintro w' ⟨s0, s1, s2, s3⟩; go_simp; with_reducible rfl⟩) ?_
  refine pQ (i := 5) (N := some 26) mkspec_l22At_at_6 ?_
  refine pQ (i := 6) (N := some 27) mkspec_l22At_at_7 ?_
  refine one_ (i := 7) (N := some 28) mkspec_l22At_at_8 rfl rfl (one_of HT_.out (by kernel_rfl)) (by decide) (fun K hK => ?_)
  refine goes_ Tryd.func33 (by kernel_rfl) rfl #[.int .i64 (wrap64 ((wrap64 ((((rd_T27 l0_0 a0_1).f3).length : Int) - 1)) - (wrap64 (a2 - ((rd_T27 l0_0 a0_1).f1))))), .int .i64 0, .int .i64 (wrap64 ((((rd_T27 l0_0 a0_1).f3).length : Int) - 1))] (by rfl) rfl rfl gQ ?_
  with_reducible refine (spec_l00In.calls (wrap64 ((wrap64 ((((rd_T27 l0_0 a0_1).f3).length : Int) - 1)) - (wrap64 (a2 - ((rd_T27 l0_0 a0_1).f1))))) 0 (wrap64 ((((rd_T27 l0_0 a0_1).f3).length : Int) - 1)) false _ A4.out).mono ?_
  rintro e w' ⟨rfl, ⟨nd, rfl⟩⟩
  refine ⟨_, rfl, ?_⟩
  refine hK.out _ _ ⟨(cB HB.out hw130_0), (cB HB.out hw130_1), (cB HB.out hw130_2), (cB HB.out hw130_3)⟩ (fun hHeld => ?_)
  clear hK K
  refine norm_ (a' := ?_) ?_ ?_
  rotate_left
  ·show Act.put _ (some 28) _ = _
   simp only [Act.put, sI, sZ, sS, i64_w, i32_w]
   rfl
  refine pQ (i := 8) (N := some 29) mkspec_l22At_at_9 ?_
  refine uQ (i := 9) (N := some 30) mkspec_l22At_at_10 ?_
  refine uQ (i := 10) (N := some 31) mkspec_l22At_at_11 ?_
  refine uQ (i := 11) (N := some 32) mkspec_l22At_at_12 ?_
  refine uQ (i := 12) (N := some 33) mkspec_l22At_at_13 ?_
  refine uQ (i := 13) (N := some 34) mkspec_l22At_at_15 ?_
  refine uQ (i := 14) (N := some 35) mkspec_l22At_at_17 ?_
  refine uQ (i := 15) (N := some 36) mkspec_l22At_at_19 ?_
  refine uQ (i := 16) (N := some 37) mkspec_l22At_at_21 ?_
  refine uQ (i := 17) (N := some 38) mkspec_l22At_at_22 ?_
  refine uQ (i := 18) (N := some 39) mkspec_l22At_at_23 ?_
  refine uQ (i := 19) (N := some 40) mkspec_l22At_at_24 ?_
  refine uQ (i := 20) (N := some 41) mkspec_l22At_at_25 ?_
  refine pQ (i := 21) (N := some 42) mkspec_l22At_at_26 ?_
  refine pQ (i := 22) (N := some 43) mkspec_l22At_at_27 ?_
  refine uQ (i := 23) (N := some 44) mkspec_l22At_at_28 ?_
  refine uQ (i := 24) (N := some 45) mkspec_l22At_at_29 ?_
  refine uQ (i := 25) (N := some 46) mkspec_l22At_at_30 ?_
  refine uQ (i := 26) (N := some 47) mkspec_l22At_at_32 ?_
  refine uQ (i := 27) (N := some 48) mkspec_l22At_at_34 ?_
  refine uQ (i := 28) (N := some 49) mkspec_l22At_at_36 ?_
  refine uQ (i := 29) (N := some 50) mkspec_l22At_at_38 ?_
  refine uQ (i := 30) (N := some 51) mkspec_l22At_at_40 ?_
  refine uQ (i := 31) (N := some 52) mkspec_l22At_at_42 ?_
  refine uQ (i := 32) (N := some 53) mkspec_l22At_at_44 ?_
  refine uQ (i := 33) (N := some 54) mkspec_l22At_at_45 ?_
  refine uQ (i := 34) (N := some 55) mkspec_l22At_at_46 ?_
  refine uQ (i := 35) (N := some 56) mkspec_l22At_at_47 ?_
  refine uQ (i := 36) (N := some 57) mkspec_l22At_at_48 ?_
  refine uQ (i := 37) (N := some 58) mkspec_l22At_at_49 ?_
  refine pQ (i := 38) (N := some 59) mkspec_l22At_at_50 ?_
  refine pQ (i := 39) (N := some 6) mkspec_l22At_at_51 ?_
  refine done_ (done_of HT_.out (by kernel_rfl)) ?_
  try go_wp2
  go_ret
  exact ⟨eQ, bQ⟩

end Go.Proofs.YthngjfipdfckkaaDoor.QFnExactDifferentPixels
