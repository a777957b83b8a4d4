/- What some Go functions answer, each as a Lean function, and that the machine answers so: written by a program of this session out of the translation. -/
import Derived.Test.YthngjfipdfckkaaDoorQFnExactPixelAtx0
import Derived.Test.YthngjfipdfckkaaDoorQFnExactPixelAtx1
import Derived.Test.YthngjfipdfckkaaDoorQFnExactPixelAtx2
namespace Go.Proofs.YthngjfipdfckkaaDoor.QFnExactPixelAt
open Go.RowKit Go.Proofs.YthngjfipdfckkaaDoorW.PrintWords Go.Proofs.YthngjfipdfckkaaDoorW.PrintLast Go.Proofs.YthngjfipdfckkaaDoorW.PrintMore Go.Proofs.YthngjfipdfckkaaDoor.Rp
attribute [local go_sem] max2_int min2_int max_two min_two max_three min_three max_four min_four   -- for this text's walks alone
set_option linter.unusedVariables false
set_option linter.unusedSimpArgs false

/-! ### spec_l22At_at: function 34 -/
abbrev mkspec_l22At_at_0 : Array Bool := #[ff,ff,ff,ff,ff,ff,ff,ff,ff,ff,ff,ff,ff,ff,ff,ff,ff,ff,ff,ff,ff,ff,ff,ff,ff,ff,ff,ff,ff,ff,ff,ff,ff,ff,ff,ff,ff,ff,ff,ff]
abbrev mkspec_l22At_at_1 : Array Bool := #[tt,ff,ff,ff,ff,ff,ff,ff,ff,ff,ff,ff,ff,ff,ff,ff,ff,ff,ff,ff,ff,ff,ff,ff,ff,ff,ff,ff,ff,ff,ff,ff,ff,ff,ff,ff,ff,ff,ff,ff]
abbrev mkspec_l22At_at_2 : Array Bool := #[tt,tt,ff,ff,ff,ff,ff,ff,ff,ff,ff,ff,ff,ff,ff,ff,ff,ff,ff,ff,ff,ff,ff,ff,ff,ff,ff,ff,ff,ff,ff,ff,ff,ff,ff,ff,ff,ff,ff,ff]
abbrev mkspec_l22At_at_3 : Array Bool := #[tt,tt,tt,ff,ff,ff,ff,ff,ff,ff,ff,ff,ff,ff,ff,ff,ff,ff,ff,ff,ff,ff,ff,ff,ff,ff,ff,ff,ff,ff,ff,ff,ff,ff,ff,ff,ff,ff,ff,ff]
abbrev mkspec_l22At_at_4 : Array Bool := #[tt,tt,tt,tt,ff,ff,ff,ff,ff,ff,ff,ff,ff,ff,ff,ff,ff,ff,ff,ff,ff,ff,ff,ff,ff,ff,ff,ff,ff,ff,ff,ff,ff,ff,ff,ff,ff,ff,ff,ff]
abbrev mkspec_l22At_at_5 : Array Bool := #[tt,tt,tt,tt,tt,ff,ff,ff,ff,ff,ff,ff,ff,ff,ff,ff,ff,ff,ff,ff,ff,ff,ff,ff,ff,ff,ff,ff,ff,ff,ff,ff,ff,ff,ff,ff,ff,ff,ff,ff]
abbrev mkspec_l22At_at_6 : Array Bool := #[tt,tt,tt,tt,tt,tt,ff,ff,ff,ff,ff,ff,ff,ff,ff,ff,ff,ff,ff,ff,ff,ff,ff,ff,ff,ff,ff,ff,ff,ff,ff,ff,ff,ff,ff,ff,ff,ff,ff,ff]
abbrev mkspec_l22At_at_7 : Array Bool := #[tt,tt,tt,tt,tt,tt,tt,ff,ff,ff,ff,ff,ff,ff,ff,ff,ff,ff,ff,ff,ff,ff,ff,ff,ff,ff,ff,ff,ff,ff,ff,ff,ff,ff,ff,ff,ff,ff,ff,ff]
abbrev mkspec_l22At_at_8 : Array Bool := #[tt,tt,tt,tt,tt,tt,tt,tt,ff,ff,ff,ff,ff,ff,ff,ff,ff,ff,ff,ff,ff,ff,ff,ff,ff,ff,ff,ff,ff,ff,ff,ff,ff,ff,ff,ff,ff,ff,ff,ff]
abbrev mkspec_l22At_at_9 : Array Bool := #[tt,tt,tt,tt,tt,tt,tt,tt,tt,ff,ff,ff,ff,ff,ff,ff,ff,ff,ff,ff,ff,ff,ff,ff,ff,ff,ff,ff,ff,ff,ff,ff,ff,ff,ff,ff,ff,ff,ff,ff]
abbrev mkspec_l22At_at_10 : Array Bool := #[tt,tt,tt,tt,tt,tt,tt,tt,tt,tt,ff,ff,ff,ff,ff,ff,ff,ff,ff,ff,ff,ff,ff,ff,ff,ff,ff,ff,ff,ff,ff,ff,ff,ff,ff,ff,ff,ff,ff,ff]
abbrev mkspec_l22At_at_11 : Array Bool := #[tt,tt,tt,tt,tt,tt,tt,tt,tt,tt,tt,ff,ff,ff,ff,ff,ff,ff,ff,ff,ff,ff,ff,ff,ff,ff,ff,ff,ff,ff,ff,ff,ff,ff,ff,ff,ff,ff,ff,ff]
abbrev mkspec_l22At_at_12 : Array Bool := #[tt,tt,tt,tt,tt,tt,tt,tt,tt,tt,tt,tt,ff,ff,ff,ff,ff,ff,ff,ff,ff,ff,ff,ff,ff,ff,ff,ff,ff,ff,ff,ff,ff,ff,ff,ff,ff,ff,ff,ff]
abbrev mkspec_l22At_at_13 : Array Bool := #[tt,tt,tt,tt,tt,tt,tt,tt,tt,tt,tt,tt,tt,ff,ff,ff,ff,ff,ff,ff,ff,ff,ff,ff,ff,ff,ff,ff,ff,ff,ff,ff,ff,ff,ff,ff,ff,ff,ff,ff]
abbrev mkspec_l22At_at_14 : Array Bool := #[tt,tt,tt,tt,tt,tt,tt,tt,tt,tt,tt,tt,tt,ff,ff,tt,ff,ff,ff,ff,ff,ff,ff,ff,ff,ff,ff,ff,ff,ff,ff,ff,ff,ff,ff,ff,ff,ff,ff,ff]
abbrev mkspec_l22At_at_15 : Array Bool := #[tt,tt,tt,tt,tt,tt,tt,tt,tt,tt,tt,tt,tt,tt,ff,ff,ff,ff,ff,ff,ff,ff,ff,ff,ff,ff,ff,ff,ff,ff,ff,ff,ff,ff,ff,ff,ff,ff,ff,ff]
abbrev mkspec_l22At_at_16 : Array Bool := #[tt,tt,tt,tt,tt,tt,tt,tt,tt,tt,tt,tt,tt,ff,ff,tt,tt,ff,ff,ff,ff,ff,ff,ff,ff,ff,ff,ff,ff,ff,ff,ff,ff,ff,ff,ff,ff,ff,ff,ff]
abbrev mkspec_l22At_at_17 : Array Bool := #[tt,tt,tt,tt,tt,tt,tt,tt,tt,tt,tt,tt,tt,tt,tt,ff,ff,ff,ff,ff,ff,ff,ff,ff,ff,ff,ff,ff,ff,ff,ff,ff,ff,ff,ff,ff,ff,ff,ff,ff]
abbrev mkspec_l22At_at_18 : Array Bool := #[tt,tt,tt,tt,tt,tt,tt,tt,tt,tt,tt,tt,tt,ff,ff,tt,tt,tt,ff,ff,ff,ff,ff,ff,ff,ff,ff,ff,ff,ff,ff,ff,ff,ff,ff,ff,ff,ff,ff,ff]
abbrev mkspec_l22At_at_19 : Array Bool := #[tt,tt,tt,tt,tt,tt,tt,tt,tt,tt,tt,tt,tt,tt,tt,tt,ff,ff,ff,ff,ff,ff,ff,ff,ff,ff,ff,ff,ff,ff,ff,ff,ff,ff,ff,ff,ff,ff,ff,ff]
abbrev mkspec_l22At_at_20 : Array Bool := #[tt,tt,tt,tt,tt,tt,tt,tt,tt,tt,tt,tt,tt,tt,ff,tt,tt,tt,ff,ff,ff,ff,ff,ff,ff,ff,ff,ff,ff,ff,ff,ff,ff,ff,ff,ff,ff,ff,ff,ff]
abbrev mkspec_l22At_at_21 : Array Bool := #[tt,tt,tt,tt,tt,tt,tt,tt,tt,tt,tt,tt,tt,tt,tt,tt,tt,ff,ff,ff,ff,ff,ff,ff,ff,ff,ff,ff,ff,ff,ff,ff,ff,ff,ff,ff,ff,ff,ff,ff]
abbrev mkspec_l22At_at_22 : Array Bool := #[tt,tt,tt,tt,tt,tt,tt,tt,tt,tt,tt,tt,tt,tt,tt,tt,tt,tt,ff,ff,ff,ff,ff,ff,ff,ff,ff,ff,ff,ff,ff,ff,ff,ff,ff,ff,ff,ff,ff,ff]
abbrev mkspec_l22At_at_23 : Array Bool := #[tt,tt,tt,tt,tt,tt,tt,tt,tt,tt,tt,tt,tt,tt,tt,tt,tt,tt,tt,ff,ff,ff,ff,ff,ff,ff,ff,ff,ff,ff,ff,ff,ff,ff,ff,ff,ff,ff,ff,ff]
abbrev mkspec_l22At_at_24 : Array Bool := #[tt,tt,tt,tt,tt,tt,tt,tt,tt,tt,tt,tt,tt,tt,tt,tt,tt,tt,tt,tt,ff,ff,ff,ff,ff,ff,ff,ff,ff,ff,ff,ff,ff,ff,ff,ff,ff,ff,ff,ff]
abbrev mkspec_l22At_at_25 : Array Bool := #[tt,tt,tt,tt,tt,tt,tt,tt,tt,tt,tt,tt,tt,tt,tt,tt,tt,tt,tt,tt,tt,ff,ff,ff,ff,ff,ff,ff,ff,ff,ff,ff,ff,ff,ff,ff,ff,ff,ff,ff]
abbrev mkspec_l22At_at_26 : Array Bool := #[tt,tt,tt,tt,tt,tt,tt,tt,tt,tt,tt,tt,tt,tt,tt,tt,tt,tt,tt,tt,tt,tt,ff,ff,ff,ff,ff,ff,ff,ff,ff,ff,ff,ff,ff,ff,ff,ff,ff,ff]
abbrev mkspec_l22At_at_27 : Array Bool := #[tt,tt,tt,tt,tt,tt,tt,tt,tt,tt,tt,tt,tt,tt,tt,tt,tt,tt,tt,tt,tt,tt,tt,ff,ff,ff,ff,ff,ff,ff,ff,ff,ff,ff,ff,ff,ff,ff,ff,ff]
abbrev mkspec_l22At_at_28 : Array Bool := #[tt,tt,tt,tt,tt,tt,tt,tt,tt,tt,tt,tt,tt,tt,tt,tt,tt,tt,tt,tt,tt,tt,tt,tt,ff,ff,ff,ff,ff,ff,ff,ff,ff,ff,ff,ff,ff,ff,ff,ff]
abbrev mkspec_l22At_at_29 : Array Bool := #[tt,tt,tt,tt,tt,tt,tt,tt,tt,tt,tt,tt,tt,tt,tt,tt,tt,tt,tt,tt,tt,tt,tt,tt,tt,ff,ff,ff,ff,ff,ff,ff,ff,ff,ff,ff,ff,ff,ff,ff]
abbrev mkspec_l22At_at_30 : Array Bool := #[tt,tt,tt,tt,tt,tt,tt,tt,tt,tt,tt,tt,tt,tt,tt,tt,tt,tt,tt,tt,tt,tt,tt,tt,tt,tt,ff,ff,ff,ff,ff,ff,ff,ff,ff,ff,ff,ff,ff,ff]
abbrev mkspec_l22At_at_31 : Array Bool := #[tt,tt,tt,tt,tt,tt,tt,tt,tt,tt,tt,tt,tt,tt,tt,tt,tt,tt,tt,tt,tt,tt,tt,tt,tt,tt,ff,tt,ff,ff,ff,ff,ff,ff,ff,ff,ff,ff,ff,ff]
abbrev mkspec_l22At_at_32 : Array Bool := #[tt,tt,tt,tt,tt,tt,tt,tt,tt,tt,tt,tt,tt,tt,tt,tt,tt,tt,tt,tt,tt,tt,tt,tt,tt,tt,tt,ff,ff,ff,ff,ff,ff,ff,ff,ff,ff,ff,ff,ff]
abbrev mkspec_l22At_at_33 : Array Bool := #[tt,tt,tt,tt,tt,tt,tt,tt,tt,tt,tt,tt,tt,tt,tt,tt,tt,tt,tt,tt,tt,tt,tt,tt,tt,tt,ff,tt,ff,ff,tt,ff,ff,ff,ff,ff,ff,ff,ff,ff]
abbrev mkspec_l22At_at_34 : Array Bool := #[tt,tt,tt,tt,tt,tt,tt,tt,tt,tt,tt,tt,tt,tt,tt,tt,tt,tt,tt,tt,tt,tt,tt,tt,tt,tt,tt,tt,ff,ff,ff,ff,ff,ff,ff,ff,ff,ff,ff,ff]
abbrev mkspec_l22At_at_35 : Array Bool := #[tt,tt,tt,tt,tt,tt,tt,tt,tt,tt,tt,tt,tt,tt,tt,tt,tt,tt,tt,tt,tt,tt,tt,tt,tt,tt,ff,tt,ff,ff,tt,tt,ff,ff,ff,ff,ff,ff,ff,ff]
abbrev mkspec_l22At_at_36 : Array Bool := #[tt,tt,tt,tt,tt,tt,tt,tt,tt,tt,tt,tt,tt,tt,tt,tt,tt,tt,tt,tt,tt,tt,tt,tt,tt,tt,tt,tt,tt,ff,ff,ff,ff,ff,ff,ff,ff,ff,ff,ff]
abbrev mkspec_l22At_at_37 : Array Bool := #[tt,tt,tt,tt,tt,tt,tt,tt,tt,tt,tt,tt,tt,tt,tt,tt,tt,tt,tt,tt,tt,tt,tt,tt,tt,tt,ff,tt,ff,ff,tt,tt,tt,ff,ff,ff,ff,ff,ff,ff]
abbrev mkspec_l22At_at_38 : Array Bool := #[tt,tt,tt,tt,tt,tt,tt,tt,tt,tt,tt,tt,tt,tt,tt,tt,tt,tt,tt,tt,tt,tt,tt,tt,tt,tt,tt,tt,tt,tt,ff,ff,ff,ff,ff,ff,ff,ff,ff,ff]
abbrev mkspec_l22At_at_39 : Array Bool := #[tt,tt,tt,tt,tt,tt,tt,tt,tt,tt,tt,tt,tt,tt,tt,tt,tt,tt,tt,tt,tt,tt,tt,tt,tt,tt,ff,tt,ff,ff,tt,tt,tt,tt,ff,ff,ff,ff,ff,ff]
abbrev mkspec_l22At_at_40 : Array Bool := #[tt,tt,tt,tt,tt,tt,tt,tt,tt,tt,tt,tt,tt,tt,tt,tt,tt,tt,tt,tt,tt,tt,tt,tt,tt,tt,tt,tt,tt,tt,tt,ff,ff,ff,ff,ff,ff,ff,ff,ff]
abbrev mkspec_l22At_at_41 : Array Bool := #[tt,tt,tt,tt,tt,tt,tt,tt,tt,tt,tt,tt,tt,tt,tt,tt,tt,tt,tt,tt,tt,tt,tt,tt,tt,tt,tt,tt,ff,ff,tt,tt,tt,tt,ff,ff,ff,ff,ff,ff]
abbrev mkspec_l22At_at_42 : Array Bool := #[tt,tt,tt,tt,tt,tt,tt,tt,tt,tt,tt,tt,tt,tt,tt,tt,tt,tt,tt,tt,tt,tt,tt,tt,tt,tt,tt,tt,tt,tt,tt,tt,ff,ff,ff,ff,ff,ff,ff,ff]
abbrev mkspec_l22At_at_43 : Array Bool := #[tt,tt,tt,tt,tt,tt,tt,tt,tt,tt,tt,tt,tt,tt,tt,tt,tt,tt,tt,tt,tt,tt,tt,tt,tt,tt,tt,tt,tt,ff,tt,tt,tt,tt,ff,ff,ff,ff,ff,ff]
abbrev mkspec_l22At_at_44 : Array Bool := #[tt,tt,tt,tt,tt,tt,tt,tt,tt,tt,tt,tt,tt,tt,tt,tt,tt,tt,tt,tt,tt,tt,tt,tt,tt,tt,tt,tt,tt,tt,tt,tt,tt,ff,ff,ff,ff,ff,ff,ff]
abbrev mkspec_l22At_at_45 : Array Bool := #[tt,tt,tt,tt,tt,tt,tt,tt,tt,tt,tt,tt,tt,tt,tt,tt,tt,tt,tt,tt,tt,tt,tt,tt,tt,tt,tt,tt,tt,tt,tt,tt,tt,tt,ff,ff,ff,ff,ff,ff]
abbrev mkspec_l22At_at_46 : Array Bool := #[tt,tt,tt,tt,tt,tt,tt,tt,tt,tt,tt,tt,tt,tt,tt,tt,tt,tt,tt,tt,tt,tt,tt,tt,tt,tt,tt,tt,tt,tt,tt,tt,tt,tt,tt,ff,ff,ff,ff,ff]
abbrev mkspec_l22At_at_47 : Array Bool := #[tt,tt,tt,tt,tt,tt,tt,tt,tt,tt,tt,tt,tt,tt,tt,tt,tt,tt,tt,tt,tt,tt,tt,tt,tt,tt,tt,tt,tt,tt,tt,tt,tt,tt,tt,tt,ff,ff,ff,ff]
abbrev mkspec_l22At_at_48 : Array Bool := #[tt,tt,tt,tt,tt,tt,tt,tt,tt,tt,tt,tt,tt,tt,tt,tt,tt,tt,tt,tt,tt,tt,tt,tt,tt,tt,tt,tt,tt,tt,tt,tt,tt,tt,tt,tt,tt,ff,ff,ff]
abbrev mkspec_l22At_at_49 : Array Bool := #[tt,tt,tt,tt,tt,tt,tt,tt,tt,tt,tt,tt,tt,tt,tt,tt,tt,tt,tt,tt,tt,tt,tt,tt,tt,tt,tt,tt,tt,tt,tt,tt,tt,tt,tt,tt,tt,tt,ff,ff]
abbrev mkspec_l22At_at_50 : Array Bool := #[tt,tt,tt,tt,tt,tt,tt,tt,tt,tt,tt,tt,tt,tt,tt,tt,tt,tt,tt,tt,tt,tt,tt,tt,tt,tt,tt,tt,tt,tt,tt,tt,tt,tt,tt,tt,tt,tt,tt,ff]
abbrev mkspec_l22At_at_51 : Array Bool := #[tt,tt,tt,tt,tt,tt,tt,tt,tt,tt,tt,tt,tt,tt,tt,tt,tt,tt,tt,tt,tt,tt,tt,tt,tt,tt,tt,tt,tt,tt,tt,tt,tt,tt,tt,tt,tt,tt,tt,tt]
abbrev mkspec_l22At_at_52 : Array Bool := #[ff,ff,ff,ff,ff,ff,ff,ff,ff,ff,ff,ff,ff,ff]
abbrev mkspec_l22At_at_53 : Array Bool := #[tt,ff,ff,ff,ff,ff,ff,ff,ff,ff,ff,ff,ff,ff]
abbrev mkspec_l22At_at_54 : Array Bool := #[tt,tt,ff,ff,ff,ff,ff,ff,ff,ff,ff,ff,ff,ff]
abbrev mkspec_l22At_at_55 : Array Bool := #[tt,tt,tt,ff,ff,ff,ff,ff,ff,ff,ff,ff,ff,ff]
abbrev mkspec_l22At_at_56 : Array Bool := #[tt,tt,tt,ff,ff,ff,tt,ff,ff,ff,ff,ff,ff,ff]
abbrev mkspec_l22At_at_57 : Array Bool := #[tt,tt,tt,ff,ff,ff,tt,tt,ff,ff,ff,ff,ff,ff]
abbrev mkspec_l22At_at_58 : Array Bool := #[tt,tt,tt,ff,ff,ff,tt,tt,tt,ff,ff,ff,ff,ff]
abbrev mkspec_l22At_at_59 : Array Bool := #[tt,tt,tt,ff,ff,ff,tt,tt,tt,tt,ff,ff,ff,ff]
abbrev mkspec_l22At_at_60 : Array Bool := #[tt,tt,tt,tt,ff,ff,tt,tt,tt,tt,ff,ff,ff,ff]
abbrev mkspec_l22At_at_61 : Array Bool := #[tt,tt,tt,tt,tt,ff,tt,tt,tt,tt,ff,ff,ff,ff]
abbrev mkspec_l22At_at_62 : Array Bool := #[tt,tt,tt,tt,tt,tt,tt,tt,tt,tt,ff,ff,ff,ff]
abbrev mkspec_l22At_at_63 : Array Bool := #[tt,tt,tt,tt,tt,tt,tt,tt,tt,tt,tt,ff,ff,ff]
abbrev mkspec_l22At_at_64 : Array Bool := #[tt,tt,tt,tt,tt,tt,tt,tt,tt,tt,tt,tt,ff,ff]
abbrev mkspec_l22At_at_65 : Array Bool := #[tt,tt,tt,tt,tt,tt,tt,tt,tt,tt,tt,tt,tt,ff]
abbrev mkspec_l22At_at_66 : Array Bool := #[tt,tt,tt,tt,tt,tt,tt,tt,tt,tt,tt,tt,tt,tt]
def spec_l22At_at.f (l0_0 : List (S27)) (a0_1 : Int) (a1 : Int) (a2 : Int) : Option (Bool) := (spec_l00In.f (wrap64 ((wrap64 ((((rd_T27 l0_0 a0_1).f3).length : Int) - 1)) - (wrap64 (a2 - ((rd_T27 l0_0 a0_1).f1))))) 0 (wrap64 ((((rd_T27 l0_0 a0_1).f3).length : Int) - 1))).bind fun t145 => (if t145 = true then ((spec_l00In.f (wrap64 (a1 - ((rd_T27 l0_0 a0_1).f0))) 0 (wrap64 (((rd_T27 l0_0 a0_1).f2) - 1))).bind fun t148 => (if t148 = true then (if 0 ≤ (wrap64 ((wrap64 ((((rd_T27 l0_0 a0_1).f3).length : Int) - 1)) - (wrap64 (a2 - ((rd_T27 l0_0 a0_1).f1))))) then (if (wrap64 ((wrap64 ((((rd_T27 l0_0 a0_1).f3).length : Int) - 1)) - (wrap64 (a2 - ((rd_T27 l0_0 a0_1).f1))))) < (((rd_T27 l0_0 a0_1).f3).length : Int) then (if 0 ≤ (wrap64 (a1 - ((rd_T27 l0_0 a0_1).f0))) then (if (wrap64 (a1 - ((rd_T27 l0_0 a0_1).f0))) < ((rdOf ByteArray.empty ((rd_T27 l0_0 a0_1).f3) (wrap64 ((wrap64 ((((rd_T27 l0_0 a0_1).f3).length : Int) - 1)) - (wrap64 (a2 - ((rd_T27 l0_0 a0_1).f1)))))).size : Int) then (some ((bt (rdOf ByteArray.empty ((rd_T27 l0_0 a0_1).f3) (wrap64 ((wrap64 ((((rd_T27 l0_0 a0_1).f3).length : Int) - 1)) - (wrap64 (a2 - ((rd_T27 l0_0 a0_1).f1)))))) (wrap64 (a1 - ((rd_T27 l0_0 a0_1).f0)))) == 35)) else (none)) else (none)) else (none)) else (none)) else (some false))) else (some false))
def spec_l22At_at.T1 : Bool × List (List Nat × List Nat) := (true, [([], []), ([0], [0]), ([1], [1]), ([2], [2]), ([3], [3]), ([4], [4]), ([], []), ([], []), ([7], [7]), ([8], [8]), ([9], [9]), ([6, 10], [6, 10]), ([5, 11], [5, 11]), ([12, 0, 1, 2, 3, 4, 5, 6, 7, 8, 9, 10, 11, 12], [12])])
def spec_l22At_at.B1 : List Nat := [0, 1, 3, 7, 15, 31, 0, 0, 128, 384, 896, 1984, 4095, 8191]
theorem spec_l22At_at.tab1 : rtab .any (opsOf Tryd.f34 1) = spec_l22At_at.T1 := by kernel_rfl
theorem spec_l22At_at.bits1 : waitsOk spec_l22At_at.T1.2 spec_l22At_at.B1 = true := by kernel_rfl
def spec_l22At_at.T2 : Bool × List (List Nat × List Nat) := (true, [([], []), ([], []), ([1], [1]), ([2], [2]), ([3], [3]), ([4], [4]), ([5], [5]), ([0, 6], [0, 6]), ([7, 7], [7]), ([8], [8]), ([8], [8]), ([10, 8], [8, 10]), ([11, 8], [8, 11]), ([12, 8], [8, 12]), ([9, 13, 8], [8, 9, 13]), ([8], [8]), ([15, 8], [8, 15]), ([16, 8], [8, 16]), ([17, 8], [8, 17]), ([18, 8], [8, 18]), ([14, 19, 8, 8], [8, 14, 19]), ([8, 20], [8, 20]), ([21, 20], [21]), ([22], [22]), ([23, 22], [22, 23]), ([24, 22], [22, 24]), ([25, 22], [22, 25]), ([22], [22]), ([26, 27, 22], [22, 26, 27]), ([28, 22], [22, 28]), ([22], [22]), ([22], [22]), ([31, 22], [22, 31]), ([32, 22], [22, 32]), ([33, 22], [22, 33]), ([30, 34, 22], [22, 30, 34]), ([29, 35, 22], [22, 29, 35]), ([36, 22], [22, 36]), ([22, 37], [22, 37]), ([38, 22, 0, 1, 2, 3, 4, 5, 6, 7, 8, 9, 10, 11, 12, 13, 14, 15, 16, 17, 18, 19, 20, 21, 22, 23, 24, 25, 26, 27, 28, 29, 30, 31, 32, 33, 34, 35, 36, 37, 38], [38])])
def spec_l22At_at.B2 : List Nat := [0, 0, 2, 6, 14, 30, 62, 127, 255, 511, 511, 1535, 3583, 7679, 16383, 511, 33279, 98815, 229887, 492031, 1048575, 2097151, 4194303, 8388607, 16777215, 33554431, 67108863, 8388607, 268435455, 536870911, 8388607, 8388607, 2155872255, 6450839551, 15040774143, 33294385151, 68719476735, 137438953471, 274877906943, 549755813887]
theorem spec_l22At_at.tab2 : rtab .any (opsOf Tryd.f34 2) = spec_l22At_at.T2 := by kernel_rfl
theorem spec_l22At_at.bits2 : waitsOk spec_l22At_at.T2.2 spec_l22At_at.B2 = true := by kernel_rfl
set_option maxHeartbeats 8000000 in
set_option maxRecDepth 100000 in
theorem spec_l22At_at.calls (p0_ : Addr) (l0_0 : List (S27)) (a0_1 : Int) (a1 : Int) (a2 : Int) (r : Bool) (w : World) (hP0_ : RPtr k27 ((a0_1 : Int).toNat * 4) w p0_ l0_0 a0_1) (h : spec_l22At_at.f l0_0 a0_1 a1 a2 = some r) :
  Calls Tryd.prog 34 #[.pointer (some p0_), .int .i64 a1, .int .i64 a2] w fun e w' => e = .returned (.bool r) ∧ Below w.heap.size w w' := by
 obtain ⟨ad0_, rfl, hr0_0, hi0_, hj0_⟩ := hP0_
 have hc0_0 : l0_0.length ≤ l0_0.length := Nat.le_refl _
 replace hi0_ := decide_eq_true hi0_
 replace hj0_ := decide_eq_true hj0_
 obtain ⟨ad9000, A9000_3, c9000_3, e9000, HX9000_0, HX9000_1, HX9000_2, HX9000_3, HC9000_3, HR9000_3⟩ := at_T27 hr0_0 a0_1 (of_decide_eq_true hi0_) (of_decide_eq_true hj0_)
 obtain rfl : ad0_ = ad9000 := (by injection e9000)
 replace HX9000_0 := aM HX9000_0
 replace HX9000_1 := aM HX9000_1
 replace HX9000_2 := aM HX9000_2
 replace HX9000_3 := aM HX9000_3
 replace HC9000_3 := aM HC9000_3
 replace HR9000_3 := aM HR9000_3
 have HR0_0 := aM hr0_0
 have HC0_0 := aM hc0_0
 clear hr0_0 hc0_0
 have HB := aM (Below.refl w.heap.size w)
 have H : ((spec_l00In.f (wrap64 ((wrap64 ((((rd_T27 l0_0 a0_1).f3).length : Int) - 1)) - (wrap64 (a2 - ((rd_T27 l0_0 a0_1).f1))))) 0 (wrap64 ((((rd_T27 l0_0 a0_1).f3).length : Int) - 1))).bind fun t145 => (if t145 = true then ((spec_l00In.f (wrap64 (a1 - ((rd_T27 l0_0 a0_1).f0))) 0 (wrap64 (((rd_T27 l0_0 a0_1).f2) - 1))).bind fun t148 => (if t148 = true then (if 0 ≤ (wrap64 ((wrap64 ((((rd_T27 l0_0 a0_1).f3).length : Int) - 1)) - (wrap64 (a2 - ((rd_T27 l0_0 a0_1).f1))))) then (if (wrap64 ((wrap64 ((((rd_T27 l0_0 a0_1).f3).length : Int) - 1)) - (wrap64 (a2 - ((rd_T27 l0_0 a0_1).f1))))) < (((rd_T27 l0_0 a0_1).f3).length : Int) then (if 0 ≤ (wrap64 (a1 - ((rd_T27 l0_0 a0_1).f0))) then (if (wrap64 (a1 - ((rd_T27 l0_0 a0_1).f0))) < ((rdOf ByteArray.empty ((rd_T27 l0_0 a0_1).f3) (wrap64 ((wrap64 ((((rd_T27 l0_0 a0_1).f3).length : Int) - 1)) - (wrap64 (a2 - ((rd_T27 l0_0 a0_1).f1)))))).size : Int) then (some ((bt (rdOf ByteArray.empty ((rd_T27 l0_0 a0_1).f3) (wrap64 ((wrap64 ((((rd_T27 l0_0 a0_1).f3).length : Int) - 1)) - (wrap64 (a2 - ((rd_T27 l0_0 a0_1).f1)))))) (wrap64 (a1 - ((rd_T27 l0_0 a0_1).f0)))) == 35)) else (none)) else (none)) else (none)) else (none)) else (some false))) else (some false))) = some r := h
 clear h
 replace H := Option.bind_eq_some_iff.mp H
 obtain ⟨t145, A40, H⟩ := H
 replace H : (if t145 = true then ((spec_l00In.f (wrap64 (a1 - ((rd_T27 l0_0 a0_1).f0))) 0 (wrap64 (((rd_T27 l0_0 a0_1).f2) - 1))).bind fun t148 => (if t148 = true then (if 0 ≤ (wrap64 ((wrap64 ((((rd_T27 l0_0 a0_1).f3).length : Int) - 1)) - (wrap64 (a2 - ((rd_T27 l0_0 a0_1).f1))))) then (if (wrap64 ((wrap64 ((((rd_T27 l0_0 a0_1).f3).length : Int) - 1)) - (wrap64 (a2 - ((rd_T27 l0_0 a0_1).f1))))) < (((rd_T27 l0_0 a0_1).f3).length : Int) then (if 0 ≤ (wrap64 (a1 - ((rd_T27 l0_0 a0_1).f0))) then (if (wrap64 (a1 - ((rd_T27 l0_0 a0_1).f0))) < ((rdOf ByteArray.empty ((rd_T27 l0_0 a0_1).f3) (wrap64 ((wrap64 ((((rd_T27 l0_0 a0_1).f3).length : Int) - 1)) - (wrap64 (a2 - ((rd_T27 l0_0 a0_1).f1)))))).size : Int) then (some ((bt (rdOf ByteArray.empty ((rd_T27 l0_0 a0_1).f3) (wrap64 ((wrap64 ((((rd_T27 l0_0 a0_1).f3).length : Int) - 1)) - (wrap64 (a2 - ((rd_T27 l0_0 a0_1).f1)))))) (wrap64 (a1 - ((rd_T27 l0_0 a0_1).f0)))) == 35)) else (none)) else (none)) else (none)) else (none)) else (some false))) else (some false)) = some r := H
 have A4 := aM A40
 clear A40
 by_cases c5 : t145 = true
 ·subst c5
  have H1 : ((spec_l00In.f (wrap64 (a1 - ((rd_T27 l0_0 a0_1).f0))) 0 (wrap64 (((rd_T27 l0_0 a0_1).f2) - 1))).bind fun t148 => (if t148 = true then (if 0 ≤ (wrap64 ((wrap64 ((((rd_T27 l0_0 a0_1).f3).length : Int) - 1)) - (wrap64 (a2 - ((rd_T27 l0_0 a0_1).f1))))) then (if (wrap64 ((wrap64 ((((rd_T27 l0_0 a0_1).f3).length : Int) - 1)) - (wrap64 (a2 - ((rd_T27 l0_0 a0_1).f1))))) < (((rd_T27 l0_0 a0_1).f3).length : Int) then (if 0 ≤ (wrap64 (a1 - ((rd_T27 l0_0 a0_1).f0))) then (if (wrap64 (a1 - ((rd_T27 l0_0 a0_1).f0))) < ((rdOf ByteArray.empty ((rd_T27 l0_0 a0_1).f3) (wrap64 ((wrap64 ((((rd_T27 l0_0 a0_1).f3).length : Int) - 1)) - (wrap64 (a2 - ((rd_T27 l0_0 a0_1).f1)))))).size : Int) then (some ((bt (rdOf ByteArray.empty ((rd_T27 l0_0 a0_1).f3) (wrap64 ((wrap64 ((((rd_T27 l0_0 a0_1).f3).length : Int) - 1)) - (wrap64 (a2 - ((rd_T27 l0_0 a0_1).f1)))))) (wrap64 (a1 - ((rd_T27 l0_0 a0_1).f0)))) == 35)) else (none)) else (none)) else (none)) else (none)) else (some false))) = some r := by rw [if_pos rfl] at H; exact H
  clear H
  have H := H1
  clear H1
  replace H := Option.bind_eq_some_iff.mp H
  obtain ⟨t148, A60, H⟩ := H
  replace H : (if t148 = true then (if 0 ≤ (wrap64 ((wrap64 ((((rd_T27 l0_0 a0_1).f3).length : Int) - 1)) - (wrap64 (a2 - ((rd_T27 l0_0 a0_1).f1))))) then (if (wrap64 ((wrap64 ((((rd_T27 l0_0 a0_1).f3).length : Int) - 1)) - (wrap64 (a2 - ((rd_T27 l0_0 a0_1).f1))))) < (((rd_T27 l0_0 a0_1).f3).length : Int) then (if 0 ≤ (wrap64 (a1 - ((rd_T27 l0_0 a0_1).f0))) then (if (wrap64 (a1 - ((rd_T27 l0_0 a0_1).f0))) < ((rdOf ByteArray.empty ((rd_T27 l0_0 a0_1).f3) (wrap64 ((wrap64 ((((rd_T27 l0_0 a0_1).f3).length : Int) - 1)) - (wrap64 (a2 - ((rd_T27 l0_0 a0_1).f1)))))).size : Int) then (some ((bt (rdOf ByteArray.empty ((rd_T27 l0_0 a0_1).f3) (wrap64 ((wrap64 ((((rd_T27 l0_0 a0_1).f3).length : Int) - 1)) - (wrap64 (a2 - ((rd_T27 l0_0 a0_1).f1)))))) (wrap64 (a1 - ((rd_T27 l0_0 a0_1).f0)))) == 35)) else (none)) else (none)) else (none)) else (none)) else (some false)) = some r := H
  have A6 := aM A60
  clear A60
  by_cases c7 : t148 = true
  ·subst c7
   have H1 : (if 0 ≤ (wrap64 ((wrap64 ((((rd_T27 l0_0 a0_1).f3).length : Int) - 1)) - (wrap64 (a2 - ((rd_T27 l0_0 a0_1).f1))))) then (if (wrap64 ((wrap64 ((((rd_T27 l0_0 a0_1).f3).length : Int) - 1)) - (wrap64 (a2 - ((rd_T27 l0_0 a0_1).f1))))) < (((rd_T27 l0_0 a0_1).f3).length : Int) then (if 0 ≤ (wrap64 (a1 - ((rd_T27 l0_0 a0_1).f0))) then (if (wrap64 (a1 - ((rd_T27 l0_0 a0_1).f0))) < ((rdOf ByteArray.empty ((rd_T27 l0_0 a0_1).f3) (wrap64 ((wrap64 ((((rd_T27 l0_0 a0_1).f3).length : Int) - 1)) - (wrap64 (a2 - ((rd_T27 l0_0 a0_1).f1)))))).size : Int) then (some ((bt (rdOf ByteArray.empty ((rd_T27 l0_0 a0_1).f3) (wrap64 ((wrap64 ((((rd_T27 l0_0 a0_1).f3).length : Int) - 1)) - (wrap64 (a2 - ((rd_T27 l0_0 a0_1).f1)))))) (wrap64 (a1 - ((rd_T27 l0_0 a0_1).f0)))) == 35)) else (none)) else (none)) else (none)) else (none)) = some r := by rw [if_pos rfl] at H; exact H
   clear H
   have H := H1
   clear H1
   obtain ⟨ji8, hji8⟩ : ∃ j_ : Int, (wrap64 ((wrap64 ((((rd_T27 l0_0 a0_1).f3).length : Int) - 1)) - (wrap64 (a2 - ((rd_T27 l0_0 a0_1).f1))))) = j_ := ⟨_, rfl⟩
   replace H : (if 0 ≤ (ji8) then (if (ji8) < (((rd_T27 l0_0 a0_1).f3).length : Int) then (if 0 ≤ (wrap64 (a1 - ((rd_T27 l0_0 a0_1).f0))) then (if (wrap64 (a1 - ((rd_T27 l0_0 a0_1).f0))) < ((rdOf ByteArray.empty ((rd_T27 l0_0 a0_1).f3) (ji8)).size : Int) then (some ((bt (rdOf ByteArray.empty ((rd_T27 l0_0 a0_1).f3) (ji8)) (wrap64 (a1 - ((rd_T27 l0_0 a0_1).f0)))) == 35)) else (none)) else (none)) else (none)) else (none)) = some r := by first | (rw [hji8] at H; exact H) | (simp only [hji8] at H ⊢; exact H)
   (try rw [hji8] at A4)
   (try rw [hji8] at A6)
   have hji8w : (IntKind.i64.wrap ((wrap64 ((((rd_T27 l0_0 a0_1).f3).length : Int) - 1)) - (wrap64 (a2 - ((rd_T27 l0_0 a0_1).f1))))) = ji8 := (i64_w _).trans hji8
   by_cases c9 : 0 ≤ (ji8)
   ·rw [if_pos c9] at H
    have c9b0 : decide (0 ≤ (ji8)) = true := decide_eq_true c9
    clear c9
    by_cases c10 : (ji8) < (((rd_T27 l0_0 a0_1).f3).length : Int)
    ·rw [if_pos c10] at H
     have c10b0 : decide ((ji8) < (((rd_T27 l0_0 a0_1).f3).length : Int)) = true := decide_eq_true c10
     clear c10
     obtain ⟨ji11, hji11⟩ : ∃ j_ : Int, (wrap64 (a1 - ((rd_T27 l0_0 a0_1).f0))) = j_ := ⟨_, rfl⟩
     replace H : (if 0 ≤ (ji11) then (if (ji11) < ((rdOf ByteArray.empty ((rd_T27 l0_0 a0_1).f3) (ji8)).size : Int) then (some ((bt (rdOf ByteArray.empty ((rd_T27 l0_0 a0_1).f3) (ji8)) (ji11)) == 35)) else (none)) else (none)) = some r := by first | (rw [hji11] at H; exact H) | (simp only [hji11] at H ⊢; exact H)
     (try rw [hji11] at A4)
     (try rw [hji11] at A6)
     have hji11w : (IntKind.i64.wrap (a1 - ((rd_T27 l0_0 a0_1).f0))) = ji11 := (i64_w _).trans hji11
     by_cases c12 : 0 ≤ (ji11)
     ·rw [if_pos c12] at H
      have c12b0 : decide (0 ≤ (ji11)) = true := decide_eq_true c12
      clear c12
      by_cases c13 : (ji11) < ((rdOf ByteArray.empty ((rd_T27 l0_0 a0_1).f3) (ji8)).size : Int)
      ·rw [if_pos c13] at H
       have c13b0 : decide ((ji11) < ((rdOf ByteArray.empty ((rd_T27 l0_0 a0_1).f3) (ji8)).size : Int)) = true := decide_eq_true c13
       clear c13
       obtain rfl := Option.some.inj H
       go_enter Tryd.func34, Tryd.ntmps34
       try go_wp2
       have n0_ := aM (below_drew1 HB.out)
       clear HB
       have HB := n0_
       clear n0_
       have hx142_0 := HX9000_0.out
       have hx142_1 := HX9000_1.out
       have hx142_2 := HX9000_2.out
       have hx142_3 := HX9000_3.out
       have hw142_3 := hx142_3
       have hw142_2 := hx142_2
       have hw142_1 := hx142_1
       have hw142_0 := hx142_0
       replace hx142_0 := cB HB.out hx142_0
       replace hx142_1 := cB HB.out hx142_1
       replace hx142_2 := cB HB.out hx142_2
       replace hx142_3 := cB HB.out hx142_3
       have HR142_3 := HR9000_3
       have HC142_3 := HC9000_3
       have hx143_0 := HX9000_0.out
       have hx143_1 := HX9000_1.out
       have hx143_2 := HX9000_2.out
       have hx143_3 := HX9000_3.out
       have hw143_3 := hx143_3
       have hw143_2 := hx143_2
       have hw143_1 := hx143_1
       have hw143_0 := hx143_0
       replace hx143_0 := cB HB.out hx143_0
       replace hx143_1 := cB HB.out hx143_1
       replace hx143_2 := cB HB.out hx143_2
       replace hx143_3 := cB HB.out hx143_3
       have HR143_3 := HR9000_3
       have HC143_3 := HC9000_3
       refine start_ (n := 14) (S := fun w' => w'.cell? (ad0_.add ((a0_1).toNat * 4)) = some (.int .i64 ((rd_T27 l0_0 a0_1).f0)) ∧ w'.cell? ⟨(ad0_.add ((a0_1).toNat * 4)).block, (ad0_.add ((a0_1).toNat * 4)).off + 1, none⟩ = some (.int .i64 ((rd_T27 l0_0 a0_1).f1)) ∧ w'.cell? ⟨(ad0_.add ((a0_1).toNat * 4)).block, (ad0_.add ((a0_1).toNat * 4)).off + 2, none⟩ = some (.int .i64 ((rd_T27 l0_0 a0_1).f2)) ∧ w'.cell? ⟨(ad0_.add ((a0_1).toNat * 4)).block, (ad0_.add ((a0_1).toNat * 4)).off + 3, none⟩ = some (.slice A9000_3 ((rd_T27 l0_0 a0_1).f3).length c9000_3) ∧ w'.cell? (ad0_.add ((a0_1).toNat * 4)) = some (.int .i64 ((rd_T27 l0_0 a0_1).f0)) ∧ w'.cell? ⟨(ad0_.add ((a0_1).toNat * 4)).block, (ad0_.add ((a0_1).toNat * 4)).off + 1, none⟩ = some (.int .i64 ((rd_T27 l0_0 a0_1).f1)) ∧ w'.cell? ⟨(ad0_.add ((a0_1).toNat * 4)).block, (ad0_.add ((a0_1).toNat * 4)).off + 2, none⟩ = some (.int .i64 ((rd_T27 l0_0 a0_1).f2)) ∧ w'.cell? ⟨(ad0_.add ((a0_1).toNat * 4)).block, (ad0_.add ((a0_1).toNat * 4)).off + 3, none⟩ = some (.slice A9000_3 ((rd_T27 l0_0 a0_1).f3).length c9000_3)) (ds := []) mkspec_l22At_at_52 (by kernel_rfl) rfl rfl ⟨(cB HB.out hw142_0), (cB HB.out hw142_1), (cB HB.out hw142_2), (cB HB.out hw142_3), (cB HB.out hw143_0), (cB HB.out hw143_1), (cB HB.out hw143_2), (cB HB.out hw143_3)⟩ (fun hHeld => ?_); refine with_tabW spec_l22At_at.tab1 spec_l22At_at.bits1 (fun HT_ HW_ => ?_)
       generalize w.drew = w15 at HB HR142_3 HR143_3 hx142_0 hx142_1 hx142_2 hx142_3 hx143_0 hx143_1 hx143_2 hx143_3 hHeld ⊢
       refine pQ (i := 0) (N := some 8) mkspec_l22At_at_53 ?_
       refine pQ (i := 1) (N := some 9) mkspec_l22At_at_54 ?_
       refine pQ (i := 2) (N := some 10) mkspec_l22At_at_55 ?_
       refine pQ (i := 6) (N := some 14) mkspec_l22At_at_56 ?_
       refine pQ (i := 7) (N := some 15) mkspec_l22At_at_57 ?_
       refine pQ (i := 8) (N := some 16) mkspec_l22At_at_58 ?_
       refine pQ (i := 9) (N := some 17) mkspec_l22At_at_59 ?_
       refine tQ (i := 3) (N := some 11) mkspec_l22At_at_60 rfl hHeld (Or.inl ⟨by rfl, by rintro w' ⟨s0, s1, s2, s3, s4, s5, s6, s7⟩; go_simp; with_reducible rfl⟩) ?_
       refine pQ (i := 4) (N := some 12) mkspec_l22At_at_61 ?_
       refine pQ (i := 5) (N := some 13) mkspec_l22At_at_62 ?_
       refine tQ (i := 10) (N := some 18) mkspec_l22At_at_63 rfl hHeld (Or.inl ⟨by rfl, by rintro w' ⟨s0, s1, s2, s3, s4, s5, s6, s7⟩; go_simp; with_reducible rfl⟩) ?_
       refine pQ (i := 11) (N := some 19) mkspec_l22At_at_64 ?_
       refine pQ (i := 12) (N := some 20) mkspec_l22At_at_65 ?_
       refine pQ (i := 13) (N := some 7) mkspec_l22At_at_66 ?_
       refine done_ (done_of HT_.out (by kernel_rfl)) ?_
       try go_wp2
       have n0_ := aM (below_drew1 HB.out)
       clear HB
       have HB := n0_
       clear n0_
       have hx144_0 := HX9000_0.out
       have hx144_1 := HX9000_1.out
       have hx144_2 := HX9000_2.out
       have hx144_3 := HX9000_3.out
       have hw144_3 := hx144_3
       have hw144_2 := hx144_2
       have hw144_1 := hx144_1
       have hw144_0 := hx144_0
       replace hx144_0 := cB HB.out hx144_0
       replace hx144_1 := cB HB.out hx144_1
       replace hx144_2 := cB HB.out hx144_2
       replace hx144_3 := cB HB.out hx144_3
       have HR144_3 := HR9000_3
       have HC144_3 := HC9000_3
       have hx146_0 := HX9000_0.out
       have hx146_1 := HX9000_1.out
       have hx146_2 := HX9000_2.out
       have hx146_3 := HX9000_3.out
       have hw146_3 := hx146_3
       have hw146_2 := hx146_2
       have hw146_1 := hx146_1
       have hw146_0 := hx146_0
       replace hx146_0 := cB HB.out hx146_0
       replace hx146_1 := cB HB.out hx146_1
       replace hx146_2 := cB HB.out hx146_2
       replace hx146_3 := cB HB.out hx146_3
       have HR146_3 := HR9000_3
       have HC146_3 := HC9000_3
       have hx147_0 := HX9000_0.out
       have hx147_1 := HX9000_1.out
       have hx147_2 := HX9000_2.out
       have hx147_3 := HX9000_3.out
       have hw147_3 := hx147_3
       have hw147_2 := hx147_2
       have hw147_1 := hx147_1
       have hw147_0 := hx147_0
       replace hx147_0 := cB HB.out hx147_0
       replace hx147_1 := cB HB.out hx147_1
       replace hx147_2 := cB HB.out hx147_2
       replace hx147_3 := cB HB.out hx147_3
       have HR147_3 := HR9000_3
       have HC147_3 := HC9000_3
       have hx149_0 := HX9000_0.out
       have hx149_1 := HX9000_1.out
       have hx149_2 := HX9000_2.out
       have hx149_3 := HX9000_3.out
       have hw149_3 := hx149_3
       have hw149_2 := hx149_2
       have hw149_1 := hx149_1
       have hw149_0 := hx149_0
       replace hx149_0 := cB HB.out hx149_0
       replace hx149_1 := cB HB.out hx149_1
       replace hx149_2 := cB HB.out hx149_2
       replace hx149_3 := cB HB.out hx149_3
       have HR149_3 := HR9000_3
       have HC149_3 := HC9000_3
       have p150 : 0 ≤ ((ji8) : Int) := dA
       have q150 : (ji8) < (((rd_T27 l0_0 a0_1).f3).length : Int) := dA
       obtain ⟨ad150, e150, hx150_0⟩ := Kd.at_string HR149_3.out (ji8) p150 q150
       have hw150_0 := hx150_0
       cases e150
       replace hx150_0 := cB HB.out hx150_0
       replace p150 := eq_true p150
       replace q150 := eq_true q150
       have hx151_0 := HX9000_0.out
       have hx151_1 := HX9000_1.out
       have hx151_2 := HX9000_2.out
       have hx151_3 := HX9000_3.out
       have hw151_3 := hx151_3
       have hw151_2 := hx151_2
       have hw151_1 := hx151_1
       have hw151_0 := hx151_0
       replace hx151_0 := cB HB.out hx151_0
       replace hx151_1 := cB HB.out hx151_1
       replace hx151_2 := cB HB.out hx151_2
       replace hx151_3 := cB HB.out hx151_3
       have HR151_3 := HR9000_3
       have HC151_3 := HC9000_3
       refine start_ (n := 40) (S := fun w' => w'.cell? (ad0_.add ((a0_1).toNat * 4)) = some (.int .i64 ((rd_T27 l0_0 a0_1).f0)) ∧ w'.cell? ⟨(ad0_.add ((a0_1).toNat * 4)).block, (ad0_.add ((a0_1).toNat * 4)).off + 1, none⟩ = some (.int .i64 ((rd_T27 l0_0 a0_1).f1)) ∧ w'.cell? ⟨(ad0_.add ((a0_1).toNat * 4)).block, (ad0_.add ((a0_1).toNat * 4)).off + 2, none⟩ = some (.int .i64 ((rd_T27 l0_0 a0_1).f2)) ∧ w'.cell? ⟨(ad0_.add ((a0_1).toNat * 4)).block, (ad0_.add ((a0_1).toNat * 4)).off + 3, none⟩ = some (.slice (some ad150) ((rd_T27 l0_0 a0_1).f3).length c9000_3) ∧ w'.cell? (ad0_.add ((a0_1).toNat * 4)) = some (.int .i64 ((rd_T27 l0_0 a0_1).f0)) ∧ w'.cell? ⟨(ad0_.add ((a0_1).toNat * 4)).block, (ad0_.add ((a0_1).toNat * 4)).off + 1, none⟩ = some (.int .i64 ((rd_T27 l0_0 a0_1).f1)) ∧ w'.cell? ⟨(ad0_.add ((a0_1).toNat * 4)).block, (ad0_.add ((a0_1).toNat * 4)).off + 2, none⟩ = some (.int .i64 ((rd_T27 l0_0 a0_1).f2)) ∧ w'.cell? ⟨(ad0_.add ((a0_1).toNat * 4)).block, (ad0_.add ((a0_1).toNat * 4)).off + 3, none⟩ = some (.slice (some ad150) ((rd_T27 l0_0 a0_1).f3).length c9000_3) ∧ w'.cell? (ad0_.add ((a0_1).toNat * 4)) = some (.int .i64 ((rd_T27 l0_0 a0_1).f0)) ∧ w'.cell? ⟨(ad0_.add ((a0_1).toNat * 4)).block, (ad0_.add ((a0_1).toNat * 4)).off + 1, none⟩ = some (.int .i64 ((rd_T27 l0_0 a0_1).f1)) ∧ w'.cell? ⟨(ad0_.add ((a0_1).toNat * 4)).block, (ad0_.add ((a0_1).toNat * 4)).off + 2, none⟩ = some (.int .i64 ((rd_T27 l0_0 a0_1).f2)) ∧ w'.cell? ⟨(ad0_.add ((a0_1).toNat * 4)).block, (ad0_.add ((a0_1).toNat * 4)).off + 3, none⟩ = some (.slice (some ad150) ((rd_T27 l0_0 a0_1).f3).length c9000_3) ∧ w'.cell? (ad0_.add ((a0_1).toNat * 4)) = some (.int .i64 ((rd_T27 l0_0 a0_1).f0)) ∧ w'.cell? ⟨(ad0_.add ((a0_1).toNat * 4)).block, (ad0_.add ((a0_1).toNat * 4)).off + 1, none⟩ = some (.int .i64 ((rd_T27 l0_0 a0_1).f1)) ∧ w'.cell? ⟨(ad0_.add ((a0_1).toNat * 4)).block, (ad0_.add ((a0_1).toNat * 4)).off + 2, none⟩ = some (.int .i64 ((rd_T27 l0_0 a0_1).f2)) ∧ w'.cell? ⟨(ad0_.add ((a0_1).toNat * 4)).block, (ad0_.add ((a0_1).toNat * 4)).off + 3, none⟩ = some (.slice (some ad150) ((rd_T27 l0_0 a0_1).f3).length c9000_3) ∧ w'.cell? (ad150.add ((ji8)).toNat) = some (.string (rdOf ByteArray.empty ((rd_T27 l0_0 a0_1).f3) (ji8))) ∧ w'.cell? (ad0_.add ((a0_1).toNat * 4)) = some (.int .i64 ((rd_T27 l0_0 a0_1).f0)) ∧ w'.cell? ⟨(ad0_.add ((a0_1).toNat * 4)).block, (ad0_.add ((a0_1).toNat * 4)).off + 1, none⟩ = some (.int .i64 ((rd_T27 l0_0 a0_1).f1)) ∧ w'.cell? ⟨(ad0_.add ((a0_1).toNat * 4)).block, (ad0_.add ((a0_1).toNat * 4)).off + 2, none⟩ = some (.int .i64 ((rd_T27 l0_0 a0_1).f2)) ∧ w'.cell? ⟨(ad0_.add ((a0_1).toNat * 4)).block, (ad0_.add ((a0_1).toNat * 4)).off + 3, none⟩ = some (.slice (some ad150) ((rd_T27 l0_0 a0_1).f3).length c9000_3)) (ds := []) mkspec_l22At_at_0 (by kernel_rfl) rfl rfl ⟨(cB HB.out hw144_0), (cB HB.out hw144_1), (cB HB.out hw144_2), (cB HB.out hw144_3), (cB HB.out hw146_0), (cB HB.out hw146_1), (cB HB.out hw146_2), (cB HB.out hw146_3), (cB HB.out hw147_0), (cB HB.out hw147_1), (cB HB.out hw147_2), (cB HB.out hw147_3), (cB HB.out hw149_0), (cB HB.out hw149_1), (cB HB.out hw149_2), (cB HB.out hw149_3), (cB HB.out hw150_0), (cB HB.out hw151_0), (cB HB.out hw151_1), (cB HB.out hw151_2), (cB HB.out hw151_3)⟩ (fun hHeld => ?_); refine with_tabW spec_l22At_at.tab2 spec_l22At_at.bits2 (fun HT_ HW_ => ?_)
       generalize w15.drew = w16 at HB HR144_3 HR146_3 HR147_3 HR149_3 HR151_3 hx144_0 hx144_1 hx144_2 hx144_3 hx146_0 hx146_1 hx146_2 hx146_3 hx147_0 hx147_1 hx147_2 hx147_3 hx149_0 hx149_1 hx149_2 hx149_3 hx150_0 hx151_0 hx151_1 hx151_2 hx151_3 hHeld ⊢
       refine pQ (i := 0) (N := some 21) mkspec_l22At_at_1 ?_
       refine pQ (i := 1) (N := some 22) mkspec_l22At_at_2 ?_
       refine pQ (i := 2) (N := some 23) mkspec_l22At_at_3 ?_
       refine pQ (i := 3) (N := some 24) mkspec_l22At_at_4 ?_
       refine tQ (i := 4) (N := some 25) mkspec_l22At_at_5 rfl hHeld (Or.inl ⟨by rfl, by rintro w' ⟨s0, s1, s2, s3, s4, s5, s6, s7, s8, s9, s10, s11, s12, s13, s14, s15, s16, s17, s18, s19, s20⟩; go_simp; with_reducible rfl⟩) ?_
       refine pQ (i := 5) (N := some 26) mkspec_l22At_at_6 ?_
       refine pQ (i := 6) (N := some 27) mkspec_l22At_at_7 ?_
       refine one_ (i := 7) (N := some 28) mkspec_l22At_at_8 rfl rfl (one_of HT_.out (by kernel_rfl)) (by decide) (fun K hK => ?_)
       refine goes_ Tryd.func33 (by kernel_rfl) rfl #[.int .i64 ji8, .int .i64 0, .int .i64 (wrap64 ((((rd_T27 l0_0 a0_1).f3).length : Int) - 1))] (by rfl) rfl rfl (by (try simp only [List.map_toArray, List.map_cons, List.map_nil]); first | done | (simp only [hji8]; rfl) | rfl | (simp only [List.length_drop, List.length_take]; rfl)) ?_
       with_reducible refine (spec_l00In.calls ji8 0 (wrap64 ((((rd_T27 l0_0 a0_1).f3).length : Int) - 1)) true _ A4.out).mono ?_
       rintro e w' ⟨rfl, ⟨nd, rfl⟩⟩
       refine ⟨_, rfl, ?_⟩
       refine hK.out _ _ ⟨(cB HB.out hw144_0), (cB HB.out hw144_1), (cB HB.out hw144_2), (cB HB.out hw144_3), (cB HB.out hw146_0), (cB HB.out hw146_1), (cB HB.out hw146_2), (cB HB.out hw146_3), (cB HB.out hw147_0), (cB HB.out hw147_1), (cB HB.out hw147_2), (cB HB.out hw147_3), (cB HB.out hw149_0), (cB HB.out hw149_1), (cB HB.out hw149_2), (cB HB.out hw149_3), (cB HB.out hw150_0), (cB HB.out hw151_0), (cB HB.out hw151_1), (cB HB.out hw151_2), (cB HB.out hw151_3)⟩ (fun hHeld => ?_)
       clear hK K
       refine norm_ (a' := ?_) ?_ ?_
       rotate_left
       ·show Act.put _ (some 28) _ = _
        simp only [Act.put, sI, sZ, sS, i64_w, i32_w]
        rfl
       refine pQ (i := 8) (N := some 29) mkspec_l22At_at_9 ?_
       refine pQ (i := 9) (N := some 30) mkspec_l22At_at_10 ?_
       refine pQ (i := 10) (N := some 31) mkspec_l22At_at_11 ?_
       refine pQ (i := 11) (N := some 32) mkspec_l22At_at_12 ?_
       refine pQ (i := 12) (N := some 33) mkspec_l22At_at_13 ?_
       refine pQ (i := 15) (N := some 36) mkspec_l22At_at_14 ?_
       refine pQ (i := 16) (N := some 37) mkspec_l22At_at_16 ?_
       refine pQ (i := 17) (N := some 38) mkspec_l22At_at_18 ?_
       refine tQ (i := 13) (N := some 34) mkspec_l22At_at_20 rfl hHeld (Or.inl ⟨by rfl, by rintro w' ⟨s0, s1, s2, s3, s4, s5, s6, s7, s8, s9, s10, s11, s12, s13, s14, s15, s16, s17, s18, s19, s20⟩; go_simp; with_reducible rfl⟩) ?_
       refine pQ (i := 14) (N := some 35) mkspec_l22At_at_22 ?_
       refine tQ (i := 18) (N := some 39) mkspec_l22At_at_23 rfl hHeld (Or.inl ⟨by rfl, by rintro w' ⟨s0, s1, s2, s3, s4, s5, s6, s7, s8, s9, s10, s11, s12, s13, s14, s15, s16, s17, s18, s19, s20⟩; go_simp; with_reducible rfl⟩) ?_
       refine pQ (i := 19) (N := some 40) mkspec_l22At_at_24 ?_
       refine one_ (i := 20) (N := some 41) mkspec_l22At_at_25 rfl rfl (one_of HT_.out (by kernel_rfl)) (by decide) (fun K hK => ?_)
       refine goes_ Tryd.func33 (by kernel_rfl) rfl #[.int .i64 ji11, .int .i64 0, .int .i64 (wrap64 (((rd_T27 l0_0 a0_1).f2) - 1))] (by rfl) rfl rfl (by (try simp only [List.map_toArray, List.map_cons, List.map_nil]); first | done | (simp only [hji11]; rfl) | rfl | (simp only [List.length_drop, List.length_take]; rfl)) ?_
       with_reducible refine (spec_l00In.calls ji11 0 (wrap64 (((rd_T27 l0_0 a0_1).f2) - 1)) true _ A6.out).mono ?_
       rintro e w' ⟨rfl, ⟨nd, rfl⟩⟩
       refine ⟨_, rfl, ?_⟩
       have p14 : 0 ≤ ((ji11) : Int) := dA
       have q14 : (ji11) < ((rdOf ByteArray.empty ((rd_T27 l0_0 a0_1).f3) (ji8)).size : Int) := dA
       have hx14 := bt_at (rdOf ByteArray.empty ((rd_T27 l0_0 a0_1).f3) (ji8)) (ji11)
       replace p14 := eq_true p14
       replace q14 := eq_true q14
       refine hK.out _ _ ⟨(cB HB.out hw144_0), (cB HB.out hw144_1), (cB HB.out hw144_2), (cB HB.out hw144_3), (cB HB.out hw146_0), (cB HB.out hw146_1), (cB HB.out hw146_2), (cB HB.out hw146_3), (cB HB.out hw147_0), (cB HB.out hw147_1), (cB HB.out hw147_2), (cB HB.out hw147_3), (cB HB.out hw149_0), (cB HB.out hw149_1), (cB HB.out hw149_2), (cB HB.out hw149_3), (cB HB.out hw150_0), (cB HB.out hw151_0), (cB HB.out hw151_1), (cB HB.out hw151_2), (cB HB.out hw151_3)⟩ (fun hHeld => ?_)
       clear hK K
       refine norm_ (a' := ?_) ?_ ?_
       rotate_left
       ·show Act.put _ (some 41) _ = _
        simp only [Act.put, sI, sZ, sS, i64_w, i32_w]
        rfl
       refine pQ (i := 21) (N := some 42) mkspec_l22At_at_26 ?_
       refine pQ (i := 22) (N := some 43) mkspec_l22At_at_27 ?_
       refine pQ (i := 23) (N := some 44) mkspec_l22At_at_28 ?_
       refine pQ (i := 24) (N := some 45) mkspec_l22At_at_29 ?_
       refine pQ (i := 25) (N := some 46) mkspec_l22At_at_30 ?_
       refine pQ (i := 27) (N := some 48) mkspec_l22At_at_31 ?_
       refine pQ (i := 30) (N := some 51) mkspec_l22At_at_33 ?_
       refine pQ (i := 31) (N := some 52) mkspec_l22At_at_35 ?_
       refine pQ (i := 32) (N := some 53) mkspec_l22At_at_37 ?_
       refine pQ (i := 33) (N := some 54) mkspec_l22At_at_39 ?_
       refine tQ (i := 26) (N := some 47) mkspec_l22At_at_41 rfl hHeld (Or.inl ⟨by rfl, by rintro w' ⟨s0, s1, s2, s3, s4, s5, s6, s7, s8, s9, s10, s11, s12, s13, s14, s15, s16, s17, s18, s19, s20⟩; go_simp; with_reducible rfl⟩) ?_
       refine pQ (i := 28) (N := some 49) mkspec_l22At_at_43 ?_
       refine tQ (i := 29) (N := some 50) mkspec_l22At_at_45 rfl hHeld (Or.inl ⟨by rfl, by rintro w' ⟨s0, s1, s2, s3, s4, s5, s6, s7, s8, s9, s10, s11, s12, s13, s14, s15, s16, s17, s18, s19, s20⟩; go_simp; with_reducible rfl⟩) ?_
       refine tQ (i := 34) (N := some 55) mkspec_l22At_at_46 rfl hHeld (Or.inl ⟨by rfl, by rintro w' ⟨s0, s1, s2, s3, s4, s5, s6, s7, s8, s9, s10, s11, s12, s13, s14, s15, s16, s17, s18, s19, s20⟩; go_simp; with_reducible rfl⟩) ?_
       refine pQ (i := 35) (N := some 56) mkspec_l22At_at_47 ?_
       refine tQ (i := 36) (N := some 57) mkspec_l22At_at_48 rfl hHeld (Or.inl ⟨by rfl, by rintro w' ⟨s0, s1, s2, s3, s4, s5, s6, s7, s8, s9, s10, s11, s12, s13, s14, s15, s16, s17, s18, s19, s20⟩; go_simp; with_reducible rfl⟩) ?_
       refine pQ (i := 37) (N := some 58) mkspec_l22At_at_49 ?_
       refine pQ (i := 38) (N := some 59) mkspec_l22At_at_50 ?_
       refine pQ (i := 39) (N := some 6) mkspec_l22At_at_51 ?_
       refine done_ (done_of HT_.out (by kernel_rfl)) ?_
       try go_wp2
       go_ret
       exact ⟨by first | rfl | (simp [errW_none, errW_some] <;> rfl) | (simp only [← hji8, ← hji11]; first | rfl | (simp [errW_none, errW_some] <;> rfl)) | (simp [*, errW_none, errW_some] <;> rfl), bQ⟩
      ·rw [if_neg c13] at H
       exact absurd H (by simp)
     ·rw [if_neg c12] at H
      exact absurd H (by simp)
    ·rw [if_neg c10] at H
     exact absurd H (by simp)
   ·rw [if_neg c9] at H
    exact absurd H (by simp)
  ·replace c7 := Bool.eq_false_iff.mpr c7
   subst c7
   have H1 : (some false) = some r := by rw [if_neg (show ¬ (false = true) by decide)] at H; exact H
   clear H
   have H := H1
   clear H1
   obtain rfl := Option.some.inj H
   go_enter Tryd.func34, Tryd.ntmps34
   try go_wp2
   have n0_ := aM (below_drew1 HB.out)
   clear HB
   have HB := n0_
   clear n0_
   have hx142_0 := HX9000_0.out
   have hx142_1 := HX9000_1.out
   have hx142_2 := HX9000_2.out
   have hx142_3 := HX9000_3.out
   have hw142_3 := hx142_3
   have hw142_2 := hx142_2
   have hw142_1 := hx142_1
   have hw142_0 := hx142_0
   replace hx142_0 := cB HB.out hx142_0
   replace hx142_1 := cB HB.out hx142_1
   replace hx142_2 := cB HB.out hx142_2
   replace hx142_3 := cB HB.out hx142_3
   have HR142_3 := HR9000_3
   have HC142_3 := HC9000_3
   have hx143_0 := HX9000_0.out
   have hx143_1 := HX9000_1.out
   have hx143_2 := HX9000_2.out
   have hx143_3 := HX9000_3.out
   have hw143_3 := hx143_3
   have hw143_2 := hx143_2
   have hw143_1 := hx143_1
   have hw143_0 := hx143_0
   replace hx143_0 := cB HB.out hx143_0
   replace hx143_1 := cB HB.out hx143_1
   replace hx143_2 := cB HB.out hx143_2
   replace hx143_3 := cB HB.out hx143_3
   have HR143_3 := HR9000_3
   have HC143_3 := HC9000_3
   refine start_ (n := 14) (S := fun w' => w'.cell? (ad0_.add ((a0_1).toNat * 4)) = some (.int .i64 ((rd_T27 l0_0 a0_1).f0)) ∧ w'.cell? ⟨(ad0_.add ((a0_1).toNat * 4)).block, (ad0_.add ((a0_1).toNat * 4)).off + 1, none⟩ = some (.int .i64 ((rd_T27 l0_0 a0_1).f1)) ∧ w'.cell? ⟨(ad0_.add ((a0_1).toNat * 4)).block, (ad0_.add ((a0_1).toNat * 4)).off + 2, none⟩ = some (.int .i64 ((rd_T27 l0_0 a0_1).f2)) ∧ w'.cell? ⟨(ad0_.add ((a0_1).toNat * 4)).block, (ad0_.add ((a0_1).toNat * 4)).off + 3, none⟩ = some (.slice A9000_3 ((rd_T27 l0_0 a0_1).f3).length c9000_3) ∧ w'.cell? (ad0_.add ((a0_1).toNat * 4)) = some (.int .i64 ((rd_T27 l0_0 a0_1).f0)) ∧ w'.cell? ⟨(ad0_.add ((a0_1).toNat * 4)).block, (ad0_.add ((a0_1).toNat * 4)).off + 1, none⟩ = some (.int .i64 ((rd_T27 l0_0 a0_1).f1)) ∧ w'.cell? ⟨(ad0_.add ((a0_1).toNat * 4)).block, (ad0_.add ((a0_1).toNat * 4)).off + 2, none⟩ = some (.int .i64 ((rd_T27 l0_0 a0_1).f2)) ∧ w'.cell? ⟨(ad0_.add ((a0_1).toNat * 4)).block, (ad0_.add ((a0_1).toNat * 4)).off + 3, none⟩ = some (.slice A9000_3 ((rd_T27 l0_0 a0_1).f3).length c9000_3)) (ds := []) mkspec_l22At_at_52 (by kernel_rfl) rfl rfl ⟨(cB HB.out hw142_0), (cB HB.out hw142_1), (cB HB.out hw142_2), (cB HB.out hw142_3), (cB HB.out hw143_0), (cB HB.out hw143_1), (cB HB.out hw143_2), (cB HB.out hw143_3)⟩ (fun hHeld => ?_); refine with_tabW spec_l22At_at.tab1 spec_l22At_at.bits1 (fun HT_ HW_ => ?_)
   generalize w.drew = w17 at HB HR142_3 HR143_3 hx142_0 hx142_1 hx142_2 hx142_3 hx143_0 hx143_1 hx143_2 hx143_3 hHeld ⊢
   refine pQ (i := 0) (N := some 8) mkspec_l22At_at_53 ?_
   refine pQ (i := 1) (N := some 9) mkspec_l22At_at_54 ?_
   refine pQ (i := 2) (N := some 10) mkspec_l22At_at_55 ?_
   refine pQ (i := 6) (N := some 14) mkspec_l22At_at_56 ?_
   refine pQ (i := 7) (N := some 15) mkspec_l22At_at_57 ?_
   refine pQ (i := 8) (N := some 16) mkspec_l22At_at_58 ?_
   refine pQ (i := 9) (N := some 17) mkspec_l22At_at_59 ?_
   refine tQ (i := 3) (N := some 11) mkspec_l22At_at_60 rfl hHeld (Or.inl ⟨by rfl, by rintro w' ⟨s0, s1, s2, s3, s4, s5, s6, s7⟩; go_simp; with_reducible rfl⟩) ?_
   refine pQ (i := 4) (N := some 12) mkspec_l22At_at_61 ?_
   refine pQ (i := 5) (N := some 13) mkspec_l22At_at_62 ?_
   refine tQ (i := 10) (N := some 18) mkspec_l22At_at_63 rfl hHeld (Or.inl ⟨by rfl, by rintro w' ⟨s0, s1, s2, s3, s4, s5, s6, s7⟩; go_simp; with_reducible rfl⟩) ?_
   refine pQ (i := 11) (N := some 19) mkspec_l22At_at_64 ?_
   refine pQ (i := 12) (N := some 20) mkspec_l22At_at_65 ?_
   refine pQ (i := 13) (N := some 7) mkspec_l22At_at_66 ?_
   refine done_ (done_of HT_.out (by kernel_rfl)) ?_
   try go_wp2
   have n0_ := aM (below_drew1 HB.out)
   clear HB
   have HB := n0_
   clear n0_
   have hx144_0 := HX9000_0.out
   have hx144_1 := HX9000_1.out
   have hx144_2 := HX9000_2.out
   have hx144_3 := HX9000_3.out
   have hw144_3 := hx144_3
   have hw144_2 := hx144_2
   have hw144_1 := hx144_1
   have hw144_0 := hx144_0
   replace hx144_0 := cB HB.out hx144_0
   replace hx144_1 := cB HB.out hx144_1
   replace hx144_2 := cB HB.out hx144_2
   replace hx144_3 := cB HB.out hx144_3
   have HR144_3 := HR9000_3
   have HC144_3 := HC9000_3
   have hx146_0 := HX9000_0.out
   have hx146_1 := HX9000_1.out
   have hx146_2 := HX9000_2.out
   have hx146_3 := HX9000_3.out
   have hw146_3 := hx146_3
   have hw146_2 := hx146_2
   have hw146_1 := hx146_1
   have hw146_0 := hx146_0
   replace hx146_0 := cB HB.out hx146_0
   replace hx146_1 := cB HB.out hx146_1
   replace hx146_2 := cB HB.out hx146_2
   replace hx146_3 := cB HB.out hx146_3
   have HR146_3 := HR9000_3
   have HC146_3 := HC9000_3
   have hx147_0 := HX9000_0.out
   have hx147_1 := HX9000_1.out
   have hx147_2 := HX9000_2.out
   have hx147_3 := HX9000_3.out
   have hw147_3 := hx147_3
   have hw147_2 := hx147_2
   have hw147_1 := hx147_1
   have hw147_0 := hx147_0
   replace hx147_0 := cB HB.out hx147_0
   replace hx147_1 := cB HB.out hx147_1
   replace hx147_2 := cB HB.out hx147_2
   replace hx147_3 := cB HB.out hx147_3
   have HR147_3 := HR9000_3
   have HC147_3 := HC9000_3
   refine start_ (n := 40) (S := fun w' => w'.cell? (ad0_.add ((a0_1).toNat * 4)) = some (.int .i64 ((rd_T27 l0_0 a0_1).f0)) ∧ w'.cell? ⟨(ad0_.add ((a0_1).toNat * 4)).block, (ad0_.add ((a0_1).toNat * 4)).off + 1, none⟩ = some (.int .i64 ((rd_T27 l0_0 a0_1).f1)) ∧ w'.cell? ⟨(ad0_.add ((a0_1).toNat * 4)).block, (ad0_.add ((a0_1).toNat * 4)).off + 2, none⟩ = some (.int .i64 ((rd_T27 l0_0 a0_1).f2)) ∧ w'.cell? ⟨(ad0_.add ((a0_1).toNat * 4)).block, (ad0_.add ((a0_1).toNat * 4)).off + 3, none⟩ = some (.slice A9000_3 ((rd_T27 l0_0 a0_1).f3).length c9000_3) ∧ w'.cell? (ad0_.add ((a0_1).toNat * 4)) = some (.int .i64 ((rd_T27 l0_0 a0_1).f0)) ∧ w'.cell? ⟨(ad0_.add ((a0_1).toNat * 4)).block, (ad0_.add ((a0_1).toNat * 4)).off + 1, none⟩ = some (.int .i64 ((rd_T27 l0_0 a0_1).f1)) ∧ w'.cell? ⟨(ad0_.add ((a0_1).toNat * 4)).block, (ad0_.add ((a0_1).toNat * 4)).off + 2, none⟩ = some (.int .i64 ((rd_T27 l0_0 a0_1).f2)) ∧ w'.cell? ⟨(ad0_.add ((a0_1).toNat * 4)).block, (ad0_.add ((a0_1).toNat * 4)).off + 3, none⟩ = some (.slice A9000_3 ((rd_T27 l0_0 a0_1).f3).length c9000_3) ∧ w'.cell? (ad0_.add ((a0_1).toNat * 4)) = some (.int .i64 ((rd_T27 l0_0 a0_1).f0)) ∧ w'.cell? ⟨(ad0_.add ((a0_1).toNat * 4)).block, (ad0_.add ((a0_1).toNat * 4)).off + 1, none⟩ = some (.int .i64 ((rd_T27 l0_0 a0_1).f1)) ∧ w'.cell? ⟨(ad0_.add ((a0_1).toNat * 4)).block, (ad0_.add ((a0_1).toNat * 4)).off + 2, none⟩ = some (.int .i64 ((rd_T27 l0_0 a0_1).f2)) ∧ w'.cell? ⟨(ad0_.add ((a0_1).toNat * 4)).block, (ad0_.add ((a0_1).toNat * 4)).off + 3, none⟩ = some (.slice A9000_3 ((rd_T27 l0_0 a0_1).f3).length c9000_3)) (ds := []) mkspec_l22At_at_0 (by kernel_rfl) rfl rfl ⟨(cB HB.out hw144_0), (cB HB.out hw144_1), (cB HB.out hw144_2), (cB HB.out hw144_3), (cB HB.out hw146_0), (cB HB.out hw146_1), (cB HB.out hw146_2), (cB HB.out hw146_3), (cB HB.out hw147_0), (cB HB.out hw147_1), (cB HB.out hw147_2), (cB HB.out hw147_3)⟩ (fun hHeld => ?_); refine with_tabW spec_l22At_at.tab2 spec_l22At_at.bits2 (fun HT_ HW_ => ?_)
   generalize w17.drew = w18 at HB HR144_3 HR146_3 HR147_3 hx144_0 hx144_1 hx144_2 hx144_3 hx146_0 hx146_1 hx146_2 hx146_3 hx147_0 hx147_1 hx147_2 hx147_3 hHeld ⊢
   refine pQ (i := 0) (N := some 21) mkspec_l22At_at_1 ?_
   refine pQ (i := 1) (N := some 22) mkspec_l22At_at_2 ?_
   refine pQ (i := 2) (N := some 23) mkspec_l22At_at_3 ?_
   refine pQ (i := 3) (N := some 24) mkspec_l22At_at_4 ?_
   refine tQ (i := 4) (N := some 25) mkspec_l22At_at_5 rfl hHeld (Or.inl ⟨by rfl, by rintro w' ⟨s0, s1, s2, s3, s4, s5, s6, s7, s8, s9, s10, s11⟩; go_simp; with_reducible rfl⟩) ?_
   refine pQ (i := 5) (N := some 26) mkspec_l22At_at_6 ?_
   refine pQ (i := 6) (N := some 27) mkspec_l22At_at_7 ?_
   refine one_ (i := 7) (N := some 28) mkspec_l22At_at_8 rfl rfl (one_of HT_.out (by kernel_rfl)) (by decide) (fun K hK => ?_)
   refine goes_ Tryd.func33 (by kernel_rfl) rfl #[.int .i64 (wrap64 ((wrap64 ((((rd_T27 l0_0 a0_1).f3).length : Int) - 1)) - (wrap64 (a2 - ((rd_T27 l0_0 a0_1).f1))))), .int .i64 0, .int .i64 (wrap64 ((((rd_T27 l0_0 a0_1).f3).length : Int) - 1))] (by rfl) rfl rfl gQ ?_
   with_reducible refine (spec_l00In.calls (wrap64 ((wrap64 ((((rd_T27 l0_0 a0_1).f3).length : Int) - 1)) - (wrap64 (a2 - ((rd_T27 l0_0 a0_1).f1))))) 0 (wrap64 ((((rd_T27 l0_0 a0_1).f3).length : Int) - 1)) true _ A4.out).mono ?_
   rintro e w' ⟨rfl, ⟨nd, rfl⟩⟩
   refine ⟨_, rfl, ?_⟩
   refine hK.out _ _ ⟨(cB HB.out hw144_0), (cB HB.out hw144_1), (cB HB.out hw144_2), (cB HB.out hw144_3), (cB HB.out hw146_0), (cB HB.out hw146_1), (cB HB.out hw146_2), (cB HB.out hw146_3), (cB HB.out hw147_0), (cB HB.out hw147_1), (cB HB.out hw147_2), (cB HB.out hw147_3)⟩ (fun hHeld => ?_)
   clear hK K
   refine norm_ (a' := ?_) ?_ ?_
   rotate_left
   ·show Act.put _ (some 28) _ = _
    simp only [Act.put, sI, sZ, sS, i64_w, i32_w]
    rfl
   refine pQ (i := 8) (N := some 29) mkspec_l22At_at_9 ?_
   refine pQ (i := 9) (N := some 30) mkspec_l22At_at_10 ?_
   refine pQ (i := 10) (N := some 31) mkspec_l22At_at_11 ?_
   refine pQ (i := 11) (N := some 32) mkspec_l22At_at_12 ?_
   refine pQ (i := 12) (N := some 33) mkspec_l22At_at_13 ?_
   refine pQ (i := 15) (N := some 36) mkspec_l22At_at_14 ?_
   refine pQ (i := 16) (N := some 37) mkspec_l22At_at_16 ?_
   refine pQ (i := 17) (N := some 38) mkspec_l22At_at_18 ?_
   refine tQ (i := 13) (N := some 34) mkspec_l22At_at_20 rfl hHeld (Or.inl ⟨by rfl, by rintro w' ⟨s0, s1, s2, s3, s4, s5, s6, s7, s8, s9, s10, s11⟩; go_simp; with_reducible rfl⟩) ?_
   refine pQ (i := 14) (N := some 35) mkspec_l22At_at_22 ?_
   refine tQ (i := 18) (N := some 39) mkspec_l22At_at_23 rfl hHeld (Or.inl ⟨by rfl, by rintro w' ⟨s0, s1, s2, s3, s4, s5, s6, s7, s8, s9, s10, s11⟩; go_simp; with_reducible rfl⟩) ?_
   refine pQ (i := 19) (N := some 40) mkspec_l22At_at_24 ?_
   refine one_ (i := 20) (N := some 41) mkspec_l22At_at_25 rfl rfl (one_of HT_.out (by kernel_rfl)) (by decide) (fun K hK => ?_)
   refine goes_ Tryd.func33 (by kernel_rfl) rfl #[.int .i64 (wrap64 (a1 - ((rd_T27 l0_0 a0_1).f0))), .int .i64 0, .int .i64 (wrap64 (((rd_T27 l0_0 a0_1).f2) - 1))] (by rfl) rfl rfl gQ ?_
   with_reducible refine (spec_l00In.calls (wrap64 (a1 - ((rd_T27 l0_0 a0_1).f0))) 0 (wrap64 (((rd_T27 l0_0 a0_1).f2) - 1)) false _ A6.out).mono ?_
   rintro e w' ⟨rfl, ⟨nd, rfl⟩⟩
   refine ⟨_, rfl, ?_⟩
   refine hK.out _ _ ⟨(cB HB.out hw144_0), (cB HB.out hw144_1), (cB HB.out hw144_2), (cB HB.out hw144_3), (cB HB.out hw146_0), (cB HB.out hw146_1), (cB HB.out hw146_2), (cB HB.out hw146_3), (cB HB.out hw147_0), (cB HB.out hw147_1), (cB HB.out hw147_2), (cB HB.out hw147_3)⟩ (fun hHeld => ?_)
   clear hK K
   refine norm_ (a' := ?_) ?_ ?_
   rotate_left
   ·show Act.put _ (some 41) _ = _
    simp only [Act.put, sI, sZ, sS, i64_w, i32_w]
    rfl
   refine pQ (i := 21) (N := some 42) mkspec_l22At_at_26 ?_
   refine pQ (i := 22) (N := some 43) mkspec_l22At_at_27 ?_
   refine uQ (i := 23) (N := some 44) mkspec_l22At_at_28 ?_
   refine uQ (i := 24) (N := some 45) mkspec_l22At_at_29 ?_
   refine uQ (i := 25) (N := some 46) mkspec_l22At_at_30 ?_
   refine uQ (i := 26) (N := some 47) mkspec_l22At_at_32 ?_
   refine uQ (i := 27) (N := some 48) mkspec_l22At_at_34 ?_
   refine uQ (i := 28) (N := some 49) mkspec_l22At_at_36 ?_
   refine uQ (i := 29) (N := some 50) mkspec_l22At_at_38 ?_
   refine uQ (i := 30) (N := some 51) mkspec_l22At_at_40 ?_
   refine uQ (i := 31) (N := some 52) mkspec_l22At_at_42 ?_
   refine uQ (i := 32) (N := some 53) mkspec_l22At_at_44 ?_
   refine uQ (i := 33) (N := some 54) mkspec_l22At_at_45 ?_
   refine uQ (i := 34) (N := some 55) mkspec_l22At_at_46 ?_
   refine uQ (i := 35) (N := some 56) mkspec_l22At_at_47 ?_
   refine uQ (i := 36) (N := some 57) mkspec_l22At_at_48 ?_
   refine uQ (i := 37) (N := some 58) mkspec_l22At_at_49 ?_
   refine pQ (i := 38) (N := some 59) mkspec_l22At_at_50 ?_
   refine pQ (i := 39) (N := some 6) mkspec_l22At_at_51 ?_
   refine done_ (done_of HT_.out (by kernel_rfl)) ?_
   try go_wp2
   go_ret
   exact ⟨eQ, bQ⟩
 ·replace c5 := Bool.eq_false_iff.mpr c5
  subst c5
  have H1 : (some false) = some r := by rw [if_neg (show ¬ (false = true) by decide)] at H; exact H
  clear H
  have H := H1
  clear H1
  obtain rfl := Option.some.inj H
  go_enter Tryd.func34, Tryd.ntmps34
  try go_wp2
  have n0_ := aM (below_drew1 HB.out)
  clear HB
  have HB := n0_
  clear n0_
  have hx142_0 := HX9000_0.out
  have hx142_1 := HX9000_1.out
  have hx142_2 := HX9000_2.out
  have hx142_3 := HX9000_3.out
  have hw142_3 := hx142_3
  have hw142_2 := hx142_2
  have hw142_1 := hx142_1
  have hw142_0 := hx142_0
  replace hx142_0 := cB HB.out hx142_0
  replace hx142_1 := cB HB.out hx142_1
  replace hx142_2 := cB HB.out hx142_2
  replace hx142_3 := cB HB.out hx142_3
  have HR142_3 := HR9000_3
  have HC142_3 := HC9000_3
  have hx143_0 := HX9000_0.out
  have hx143_1 := HX9000_1.out
  have hx143_2 := HX9000_2.out
  have hx143_3 := HX9000_3.out
  have hw143_3 := hx143_3
  have hw143_2 := hx143_2
  have hw143_1 := hx143_1
  have hw143_0 := hx143_0
  replace hx143_0 := cB HB.out hx143_0
  replace hx143_1 := cB HB.out hx143_1
  replace hx143_2 := cB HB.out hx143_2
  replace hx143_3 := cB HB.out hx143_3
  have HR143_3 := HR9000_3
  have HC143_3 := HC9000_3
  refine start_ (n := 14) (S := fun w' => w'.cell? (ad0_.add ((a0_1).toNat * 4)) = some (.int .i64 ((rd_T27 l0_0 a0_1).f0)) ∧ w'.cell? ⟨(ad0_.add ((a0_1).toNat * 4)).block, (ad0_.add ((a0_1).toNat * 4)).off + 1, none⟩ = some (.int .i64 ((rd_T27 l0_0 a0_1).f1)) ∧ w'.cell? ⟨(ad0_.add ((a0_1).toNat * 4)).block, (ad0_.add ((a0_1).toNat * 4)).off + 2, none⟩ = some (.int .i64 ((rd_T27 l0_0 a0_1).f2)) ∧ w'.cell? ⟨(ad0_.add ((a0_1).toNat * 4)).block, (ad0_.add ((a0_1).toNat * 4)).off + 3, none⟩ = some (.slice A9000_3 ((rd_T27 l0_0 a0_1).f3).length c9000_3) ∧ w'.cell? (ad0_.add ((a0_1).toNat * 4)) = some (.int .i64 ((rd_T27 l0_0 a0_1).f0)) ∧ w'.cell? ⟨(ad0_.add ((a0_1).toNat * 4)).block, (ad0_.add ((a0_1).toNat * 4)).off + 1, none⟩ = some (.int .i64 ((rd_T27 l0_0 a0_1).f1)) ∧ w'.cell? ⟨(ad0_.add ((a0_1).toNat * 4)).block, (ad0_.add ((a0_1).toNat * 4)).off + 2, none⟩ = some (.int .i64 ((rd_T27 l0_0 a0_1).f2)) ∧ w'.cell? ⟨(ad0_.add ((a0_1).toNat * 4)).block, (ad0_.add ((a0_1).toNat * 4)).off + 3, none⟩ = some (.slice A9000_3 ((rd_T27 l0_0 a0_1).f3).length c9000_3)) (ds := []) mkspec_l22At_at_52 (by kernel_rfl) rfl rfl ⟨(cB HB.out hw142_0), (cB HB.out hw142_1), (cB HB.out hw142_2), (cB HB.out hw142_3), (cB HB.out hw143_0), (cB HB.out hw143_1), (cB HB.out hw143_2), (cB HB.out hw143_3)⟩ (fun hHeld => ?_); refine with_tabW spec_l22At_at.tab1 spec_l22At_at.bits1 (fun HT_ HW_ => ?_)
  generalize w.drew = w19 at HB HR142_3 HR143_3 hx142_0 hx142_1 hx142_2 hx142_3 hx143_0 hx143_1 hx143_2 hx143_3 hHeld ⊢
  refine pQ (i := 0) (N := some 8) mkspec_l22At_at_53 ?_
  refine pQ (i := 1) (N := some 9) mkspec_l22At_at_54 ?_
  refine pQ (i := 2) (N := some 10) mkspec_l22At_at_55 ?_
  refine pQ (i := 6) (N := some 14) mkspec_l22At_at_56 ?_
  refine pQ (i := 7) (N := some 15) mkspec_l22At_at_57 ?_
  refine pQ (i := 8) (N := some 16) mkspec_l22At_at_58 ?_
  refine pQ (i := 9) (N := some 17) mkspec_l22At_at_59 ?_
  refine tQ (i := 3) (N := some 11) mkspec_l22At_at_60 rfl hHeld (Or.inl ⟨by rfl, by rintro w' ⟨s0, s1, s2, s3, s4, s5, s6, s7⟩; go_simp; with_reducible rfl⟩) ?_
  refine pQ (i := 4) (N := some 12) mkspec_l22At_at_61 ?_
  refine pQ (i := 5) (N := some 13) mkspec_l22At_at_62 ?_
  refine tQ (i := 10) (N := some 18) mkspec_l22At_at_63 rfl hHeld (Or.inl ⟨by rfl, by rintro w' ⟨s0, s1, s2, s3, s4, s5, s6, s7⟩; go_simp; with_reducible rfl⟩) ?_
  refine pQ (i := 11) (N := some 19) mkspec_l22At_at_64 ?_
  refine pQ (i := 12) (N := some 20) mkspec_l22At_at_65 ?_
  refine pQ (i := 13) (N := some 7) mkspec_l22At_at_66 ?_
  refine done_ (done_of HT_.out (by kernel_rfl)) ?_
  try go_wp2
  have n0_ := aM (below_drew1 HB.out)
  clear HB
  have HB := n0_
  clear n0_
  have hx144_0 := HX9000_0.out
  have hx144_1 := HX9000_1.out
  have hx144_2 := HX9000_2.out
  have hx144_3 := HX9000_3.out
  have hw144_3 := hx144_3
  have hw144_2 := hx144_2
  have hw144_1 := hx144_1
  have hw144_0 := hx144_0
  replace hx144_0 := cB HB.out hx144_0
  replace hx144_1 := cB HB.out hx144_1
  replace hx144_2 := cB HB.out hx144_2
  replace hx144_3 := cB HB.out hx144_3
  have HR144_3 := HR9000_3
  have HC144_3 := HC9000_3
  refine start_ (n := 40) (S := fun w' => w'.cell? (ad0_.add ((a0_1).toNat * 4)) = some (.int .i64 ((rd_T27 l0_0 a0_1).f0)) ∧ w'.cell? ⟨(ad0_.add ((a0_1).toNat * 4)).block, (ad0_.add ((a0_1).toNat * 4)).off + 1, none⟩ = some (.int .i64 ((rd_T27 l0_0 a0_1).f1)) ∧ w'.cell? ⟨(ad0_.add ((a0_1).toNat * 4)).block, (ad0_.add ((a0_1).toNat * 4)).off + 2, none⟩ = some (.int .i64 ((rd_T27 l0_0 a0_1).f2)) ∧ w'.cell? ⟨(ad0_.add ((a0_1).toNat * 4)).block, (ad0_.add ((a0_1).toNat * 4)).off + 3, none⟩ = some (.slice A9000_3 ((rd_T27 l0_0 a0_1).f3).length c9000_3)) (ds := []) mkspec_l22At_at_0 (by kernel_rfl) rfl rfl ⟨(cB HB.out hw144_0), (cB HB.out hw144_1), (cB HB.out hw144_2), (cB HB.out hw144_3)⟩ (fun hHeld => ?_); refine with_tabW spec_l22At_at.tab2 spec_l22At_at.bits2 (fun HT_ HW_ => ?_)
  generalize w19.drew = w20 at HB HR144_3 hx144_0 hx144_1 hx144_2 hx144_3 hHeld ⊢
  refine pQ (i := 0) (N := some 21) mkspec_l22At_at_1 ?_
  refine pQ (i := 1) (N := some 22) mkspec_l22At_at_2 ?_
  refine pQ (i := 2) (N := some 23) mkspec_l22At_at_3 ?_
  refine pQ (i := 3) (N := some 24) mkspec_l22At_at_4 ?_
  refine tQ (i := 4) (N := some 25) mkspec_l22At_at_5 rfl hHeld (Or.inl ⟨by rfl, by rintro w' ⟨s0, s1, s2, s3⟩; go_simp; with_reducible rfl⟩) ?_
  refine pQ (i := 5) (N := some 26) mkspec_l22At_at_6 ?_
  refine pQ (i := 6) (N := some 27) mkspec_l22At_at_7 ?_
  refine one_ (i := 7) (N := some 28) mkspec_l22At_at_8 rfl rfl (one_of HT_.out (by kernel_rfl)) (by decide) (fun K hK => ?_)
  refine goes_ Tryd.func33 (by kernel_rfl) rfl #[.int .i64 (wrap64 ((wrap64 ((((rd_T27 l0_0 a0_1).f3).length : Int) - 1)) - (wrap64 (a2 - ((rd_T27 l0_0 a0_1).f1))))), .int .i64 0, .int .i64 (wrap64 ((((rd_T27 l0_0 a0_1).f3).length : Int) - 1))] (by rfl) rfl rfl gQ ?_
  with_reducible refine (spec_l00In.calls (wrap64 ((wrap64 ((((rd_T27 l0_0 a0_1).f3).length : Int) - 1)) - (wrap64 (a2 - ((rd_T27 l0_0 a0_1).f1))))) 0 (wrap64 ((((rd_T27 l0_0 a0_1).f3).length : Int) - 1)) false _ A4.out).mono ?_
  rintro e w' ⟨rfl, ⟨nd, rfl⟩⟩
  refine ⟨_, rfl, ?_⟩
  refine hK.out _ _ ⟨(cB HB.out hw144_0), (cB HB.out hw144_1), (cB HB.out hw144_2), (cB HB.out hw144_3)⟩ (fun hHeld => ?_)
  clear hK K
  refine norm_ (a' := ?_) ?_ ?_
  rotate_left
  ·show Act.put _ (some 28) _ = _
   simp only [Act.put, sI, sZ, sS, i64_w, i32_w]
   rfl
  refine pQ (i := 8) (N := some 29) mkspec_l22At_at_9 ?_
  refine uQ (i := 9) (N := some 30) mkspec_l22At_at_10 ?_
  refine uQ (i := 10) (N := some 31) mkspec_l22At_at_11 ?_
  refine uQ (i := 11) (N := some 32) mkspec_l22At_at_12 ?_
  refine uQ (i := 12) (N := some 33) mkspec_l22At_at_13 ?_
  refine uQ (i := 13) (N := some 34) mkspec_l22At_at_15 ?_
  refine uQ (i := 14) (N := some 35) mkspec_l22At_at_17 ?_
  refine uQ (i := 15) (N := some 36) mkspec_l22At_at_19 ?_
  refine uQ (i := 16) (N := some 37) mkspec_l22At_at_21 ?_
  refine uQ (i := 17) (N := some 38) mkspec_l22At_at_22 ?_
  refine uQ (i := 18) (N := some 39) mkspec_l22At_at_23 ?_
  refine uQ (i := 19) (N := some 40) mkspec_l22At_at_24 ?_
  refine uQ (i := 20) (N := some 41) mkspec_l22At_at_25 ?_
  refine pQ (i := 21) (N := some 42) mkspec_l22At_at_26 ?_
  refine pQ (i := 22) (N := some 43) mkspec_l22At_at_27 ?_
  refine uQ (i := 23) (N := some 44) mkspec_l22At_at_28 ?_
  refine uQ (i := 24) (N := some 45) mkspec_l22At_at_29 ?_
  refine uQ (i := 25) (N := some 46) mkspec_l22At_at_30 ?_
  refine uQ (i := 26) (N := some 47) mkspec_l22At_at_32 ?_
  refine uQ (i := 27) (N := some 48) mkspec_l22At_at_34 ?_
  refine uQ (i := 28) (N := some 49) mkspec_l22At_at_36 ?_
  refine uQ (i := 29) (N := some 50) mkspec_l22At_at_38 ?_
  refine uQ (i := 30) (N := some 51) mkspec_l22At_at_40 ?_
  refine uQ (i := 31) (N := some 52) mkspec_l22At_at_42 ?_
  refine uQ (i := 32) (N := some 53) mkspec_l22At_at_44 ?_
  refine uQ (i := 33) (N := some 54) mkspec_l22At_at_45 ?_
  refine uQ (i := 34) (N := some 55) mkspec_l22At_at_46 ?_
  refine uQ (i := 35) (N := some 56) mkspec_l22At_at_47 ?_
  refine uQ (i := 36) (N := some 57) mkspec_l22At_at_48 ?_
  refine uQ (i := 37) (N := some 58) mkspec_l22At_at_49 ?_
  refine pQ (i := 38) (N := some 59) mkspec_l22At_at_50 ?_
  refine pQ (i := 39) (N := some 6) mkspec_l22At_at_51 ?_
  refine done_ (done_of HT_.out (by kernel_rfl)) ?_
  try go_wp2
  go_ret
  exact ⟨eQ, bQ⟩

/-! ### spec_PixelAt: function 14 -/
def spec_PixelAt.f (k : Nat) (a0_0 : Int) (a0_1 : Int) (a0_2 : Int) (l0_3 : List ByteArray) (a1 : Int) (a2 : Int) : Option (Bool) := (spec_l22Ok_at.f k [(⟨a0_0, a0_1, a0_2, l0_3⟩ : S27)] 0).bind fun t153 => (if t153 = true then ((spec_l00In.f a1 (-2097152) 2097152).bind fun t154 => (if t154 = true then ((spec_l00In.f a2 (-2097152) 2097152).bind fun t155 => (if t155 = true then ((spec_l22At_at.f [(⟨a0_0, a0_1, a0_2, l0_3⟩ : S27)] 0 a1 a2).bind fun t156 => (some t156)) else (some false))) else (some false))) else (some false))
theorem spec_PixelAt.mono : ∀ a0 a1 a2 a3 a4 a5 k, LeO (spec_PixelAt.f k a0 a1 a2 a3 a4 a5) (spec_PixelAt.f (k + 1) a0 a1 a2 a3 a4 a5) := by
 intro a0 a1 a2 a3 a4 a5 k
 unfold spec_PixelAt.f
 repeat' first
   | (with_reducible exact spec_l22Ok_at.mono _ _ _)
   | (with_reducible exact LeO.refl _)
   | (with_reducible exact LeO.none _)
   | (with_reducible refine LeO.ite ?_ ?_)
   | (with_reducible refine LeO.bind ?_ (fun _ => ?_))
   | exact spec_l22Ok_at.mono _ _ _
   | exact LeO.none _
   | refine LeO.ite ?_ ?_
   | refine LeO.bind ?_ (fun _ => ?_)
set_option maxHeartbeats 8000000 in
set_option maxRecDepth 100000 in
theorem spec_PixelAt.calls (k : Nat) (a0_0 : Int) (a0_1 : Int) (a0_2 : Int) (A0_3 : Option Addr) (c0_3 : Nat) (l0_3 : List ByteArray) (a1 : Int) (a2 : Int) (r : Bool) (w : World) (hr0_3 : Kd.C Kd.string w A0_3 l0_3.length l0_3) (hc0_3 : l0_3.length ≤ c0_3) (h : spec_PixelAt.f k a0_0 a0_1 a0_2 l0_3 a1 a2 = some r) :
  Calls Tryd.prog 14 #[.agg #[.int .i64 a0_0, .int .i64 a0_1, .int .i64 a0_2, .slice A0_3 l0_3.length c0_3], .int .i64 a1, .int .i64 a2] w fun e w' => e = .returned (.bool r) ∧ Below w.heap.size w w' := by
 have hu27 := Tryd.underlying27
 have HR0_3 := aM hr0_3
 have HC0_3 := aM hc0_3
 clear hr0_3 hc0_3
 have HB := aM (Below.refl w.heap.size w)
 have H : ((spec_l22Ok_at.f k [(⟨a0_0, a0_1, a0_2, l0_3⟩ : S27)] 0).bind fun t153 => (if t153 = true then ((spec_l00In.f a1 (-2097152) 2097152).bind fun t154 => (if t154 = true then ((spec_l00In.f a2 (-2097152) 2097152).bind fun t155 => (if t155 = true then ((spec_l22At_at.f [(⟨a0_0, a0_1, a0_2, l0_3⟩ : S27)] 0 a1 a2).bind fun t156 => (some t156)) else (some false))) else (some false))) else (some false))) = some r := h
 clear h
 replace H := Option.bind_eq_some_iff.mp H
 obtain ⟨t153, A40, H⟩ := H
 replace H : (if t153 = true then ((spec_l00In.f a1 (-2097152) 2097152).bind fun t154 => (if t154 = true then ((spec_l00In.f a2 (-2097152) 2097152).bind fun t155 => (if t155 = true then ((spec_l22At_at.f [(⟨a0_0, a0_1, a0_2, l0_3⟩ : S27)] 0 a1 a2).bind fun t156 => (some t156)) else (some false))) else (some false))) else (some false)) = some r := H
 have A4 := aM A40
 clear A40
 by_cases c5 : t153 = true
 ·subst c5
  have H1 : ((spec_l00In.f a1 (-2097152) 2097152).bind fun t154 => (if t154 = true then ((spec_l00In.f a2 (-2097152) 2097152).bind fun t155 => (if t155 = true then ((spec_l22At_at.f [(⟨a0_0, a0_1, a0_2, l0_3⟩ : S27)] 0 a1 a2).bind fun t156 => (some t156)) else (some false))) else (some false))) = some r := by rw [if_pos rfl] at H; exact H
  clear H
  have H := H1
  clear H1
  replace H := Option.bind_eq_some_iff.mp H
  obtain ⟨t154, A60, H⟩ := H
  replace H : (if t154 = true then ((spec_l00In.f a2 (-2097152) 2097152).bind fun t155 => (if t155 = true then ((spec_l22At_at.f [(⟨a0_0, a0_1, a0_2, l0_3⟩ : S27)] 0 a1 a2).bind fun t156 => (some t156)) else (some false))) else (some false)) = some r := H
  have A6 := aM A60
  clear A60
  by_cases c7 : t154 = true
  ·subst c7
   have H1 : ((spec_l00In.f a2 (-2097152) 2097152).bind fun t155 => (if t155 = true then ((spec_l22At_at.f [(⟨a0_0, a0_1, a0_2, l0_3⟩ : S27)] 0 a1 a2).bind fun t156 => (some t156)) else (some false))) = some r := by rw [if_pos rfl] at H; exact H
   clear H
   have H := H1
   clear H1
   replace H := Option.bind_eq_some_iff.mp H
   obtain ⟨t155, A80, H⟩ := H
   replace H : (if t155 = true then ((spec_l22At_at.f [(⟨a0_0, a0_1, a0_2, l0_3⟩ : S27)] 0 a1 a2).bind fun t156 => (some t156)) else (some false)) = some r := H
   have A8 := aM A80
   clear A80
   by_cases c9 : t155 = true
   ·subst c9
    have H1 : ((spec_l22At_at.f [(⟨a0_0, a0_1, a0_2, l0_3⟩ : S27)] 0 a1 a2).bind fun t156 => (some t156)) = some r := by rw [if_pos rfl] at H; exact H
    clear H
    have H := H1
    clear H1
    replace H := Option.bind_eq_some_iff.mp H
    obtain ⟨t156, A100, H⟩ := H
    replace H : (some t156) = some r := H
    have A10 := aM A100
    clear A100
    obtain rfl := Option.some.inj H
    go_enter Tryd.func14, Tryd.ntmps14
    go_wp2_with (first | ((with_reducible refine gate_dst (N := 3) rfl ?_); refine box_event ?hg (N := 3) ?hd (cs := #[.int .i64 a0_0, .int .i64 a0_1, .int .i64 a0_2, .slice A0_3 l0_3.length c0_3]) (t := 27) ?hr ?_; (case hd => rfl); (case hg => rfl); (case hr => first | (go_simp; done) | (go_simp; rfl)); intro gb152 hg w11 hbox hb; have n0_ := aM (below_step bQ hb); have n1_ := aM (hbox); have n2_ := aM ((by rw [hg]; exact (below_size bQ) : w.heap.size ≤ gb152)); have n3_ := aM ((by rw [hg]; exact (below_size bQ) : w.heap.size ≤ gb152)); clear HB; have HB := n0_; have BK152 := n1_; have GW152 := n2_; have GE152 := n3_; clear n0_ n1_ n2_ n3_; clear hb hbox hg; have hcz12_0 : w11.cell? ⟨gb152, 0, none⟩ = some (.int .i64 a0_0) := (blk_cell BK152.out 0).trans rfl; have hcz12_1 : w11.cell? ⟨gb152, 1, none⟩ = some (.int .i64 a0_1) := (blk_cell BK152.out 1).trans rfl; have hcz12_2 : w11.cell? ⟨gb152, 2, none⟩ = some (.int .i64 a0_2) := (blk_cell BK152.out 2).trans rfl; have hcz12_3 : w11.cell? ⟨gb152, 3, none⟩ = some (.slice A0_3 l0_3.length c0_3) := (blk_cell BK152.out 3).trans rfl; have hfz12_0 := blk_frozen BK152.out 0; have hfz12_1 := blk_frozen BK152.out 1; have hfz12_2 := blk_frozen BK152.out 2; have hfz12_3 := blk_frozen BK152.out 3) | ((with_reducible refine gate_callee (f := 27) rfl ?_); refine goesL_ (some 7) rfl rfl Tryd.func27 (by kernel_rfl) rfl #[.pointer (some ⟨gb152, 0, none⟩)] rfl gQ ?_; (with_reducible refine (spec_l22Ok_at.calls k _ [(⟨a0_0, a0_1, a0_2, l0_3⟩ : S27)] 0 true _ ?side1 A4.out).mono ?_); (case side1 => exact RPtr.box (k27_mk _ _ (by exact HC0_3.out) (by repeat (first | exact (Kd.C_below HR0_3.out HB.out) | (with_reducible first | refine cA ?_ _ | refine cN ?_ _ | refine cD ?_)))) (by (with_reducible repeat (first | refine blk_drewN ?_ _ | refine blk_drew ?_ | refine blk_alloc ?_ _)); exact BK152.out) rfl); rintro e w13 ⟨rfl, hb⟩; refine ⟨_, rfl, ?_⟩; have n0_ := aM (blk_below (g := gb152) (o := .cells #[.int .i64 a0_0, .int .i64 a0_1, .int .i64 a0_2, .slice A0_3 l0_3.length c0_3] 27 (0, 0)) (by (with_reducible repeat (first | refine blk_drewN ?_ _ | refine blk_drew ?_ | refine blk_alloc ?_ _)); exact BK152.out) hb); have n1_ := aM (below_step (by repeat (first | (with_reducible first | exact HB.out | apply bA | apply bN | apply bD | refine below_set ?_ GE152.out) | exact HB.out)) hb); clear BK152; clear HB; have BK152 := n0_; have HB := n1_; clear n0_ n1_; (try clear hb); (try clear hb2); (try clear hk); (try clear hi)) | (go_at_call 33; (with_reducible refine (spec_l00In.calls a1 (-2097152) 2097152 true _ A6.out).mono ?_); rintro e w' ⟨rfl, ⟨nd, rfl⟩⟩) | (go_at_call 33; (with_reducible refine (spec_l00In.calls a2 (-2097152) 2097152 true _ A8.out).mono ?_); rintro e w' ⟨rfl, ⟨nd, rfl⟩⟩; have hcz14_0 : w13.cell? ⟨gb152, 0, none⟩ = some (.int .i64 a0_0) := (blk_cell BK152.out 0).trans rfl; have hcz14_1 : w13.cell? ⟨gb152, 1, none⟩ = some (.int .i64 a0_1) := (blk_cell BK152.out 1).trans rfl; have hcz14_2 : w13.cell? ⟨gb152, 2, none⟩ = some (.int .i64 a0_2) := (blk_cell BK152.out 2).trans rfl; have hcz14_3 : w13.cell? ⟨gb152, 3, none⟩ = some (.slice A0_3 l0_3.length c0_3) := (blk_cell BK152.out 3).trans rfl; have hfz14_0 := blk_frozen BK152.out 0; have hfz14_1 := blk_frozen BK152.out 1; have hfz14_2 := blk_frozen BK152.out 2; have hfz14_3 := blk_frozen BK152.out 3) | (go_at_call 34; (with_reducible refine (spec_l22At_at.calls _ [(⟨a0_0, a0_1, a0_2, l0_3⟩ : S27)] 0 a1 a2 t156 _ ?side1 A10.out).mono ?_); (case side1 => exact RPtr.box (k27_mk _ _ (by exact HC0_3.out) (by repeat (first | exact (Kd.C_below HR0_3.out (by repeat (first | (with_reducible first | exact HB.out | apply bA | apply bN | apply bD | refine below_set ?_ GE152.out) | exact HB.out))) | (with_reducible first | refine cA ?_ _ | refine cN ?_ _ | refine cD ?_)))) (by (with_reducible repeat (first | refine blk_drewN ?_ _ | refine blk_drew ?_ | refine blk_alloc ?_ _)); exact BK152.out) rfl); rintro e w15 ⟨rfl, hb⟩; have n0_ := aM (blk_below (g := gb152) (o := .cells #[.int .i64 a0_0, .int .i64 a0_1, .int .i64 a0_2, .slice A0_3 l0_3.length c0_3] 27 (0, 0)) (by (with_reducible repeat (first | refine blk_drewN ?_ _ | refine blk_drew ?_ | refine blk_alloc ?_ _)); exact BK152.out) hb); have n1_ := aM (below_step (by repeat (first | (with_reducible first | exact HB.out | apply bA | apply bN | apply bD | refine below_set ?_ GE152.out) | exact HB.out)) hb); clear BK152; clear HB; have BK152 := n0_; have HB := n1_; clear n0_ n1_; (try clear hb); (try clear hb2); (try clear hk); (try clear hi)))
    go_ret
    exact ⟨eQ, by repeat (first | (with_reducible first | exact HB.out | apply bA | apply bN | apply bD | refine below_set ?_ GE152.out) | exact HB.out)⟩
   ·replace c9 := Bool.eq_false_iff.mpr c9
    subst c9
    have H1 : (some false) = some r := by rw [if_neg (show ¬ (false = true) by decide)] at H; exact H
    clear H
    have H := H1
    clear H1
    obtain rfl := Option.some.inj H
    go_enter Tryd.func14, Tryd.ntmps14
    go_wp2_with (first | ((with_reducible refine gate_dst (N := 3) rfl ?_); refine box_event ?hg (N := 3) ?hd (cs := #[.int .i64 a0_0, .int .i64 a0_1, .int .i64 a0_2, .slice A0_3 l0_3.length c0_3]) (t := 27) ?hr ?_; (case hd => rfl); (case hg => rfl); (case hr => first | (go_simp; done) | (go_simp; rfl)); intro gb152 hg w16 hbox hb; have n0_ := aM (below_step bQ hb); have n1_ := aM (hbox); have n2_ := aM ((by rw [hg]; exact (below_size bQ) : w.heap.size ≤ gb152)); have n3_ := aM ((by rw [hg]; exact (below_size bQ) : w.heap.size ≤ gb152)); clear HB; have HB := n0_; have BK152 := n1_; have GW152 := n2_; have GE152 := n3_; clear n0_ n1_ n2_ n3_; clear hb hbox hg; have hcz17_0 : w16.cell? ⟨gb152, 0, none⟩ = some (.int .i64 a0_0) := (blk_cell BK152.out 0).trans rfl; have hcz17_1 : w16.cell? ⟨gb152, 1, none⟩ = some (.int .i64 a0_1) := (blk_cell BK152.out 1).trans rfl; have hcz17_2 : w16.cell? ⟨gb152, 2, none⟩ = some (.int .i64 a0_2) := (blk_cell BK152.out 2).trans rfl; have hcz17_3 : w16.cell? ⟨gb152, 3, none⟩ = some (.slice A0_3 l0_3.length c0_3) := (blk_cell BK152.out 3).trans rfl; have hfz17_0 := blk_frozen BK152.out 0; have hfz17_1 := blk_frozen BK152.out 1; have hfz17_2 := blk_frozen BK152.out 2; have hfz17_3 := blk_frozen BK152.out 3) | ((with_reducible refine gate_callee (f := 27) rfl ?_); refine goesL_ (some 7) rfl rfl Tryd.func27 (by kernel_rfl) rfl #[.pointer (some ⟨gb152, 0, none⟩)] rfl gQ ?_; (with_reducible refine (spec_l22Ok_at.calls k _ [(⟨a0_0, a0_1, a0_2, l0_3⟩ : S27)] 0 true _ ?side1 A4.out).mono ?_); (case side1 => exact RPtr.box (k27_mk _ _ (by exact HC0_3.out) (by repeat (first | exact (Kd.C_below HR0_3.out HB.out) | (with_reducible first | refine cA ?_ _ | refine cN ?_ _ | refine cD ?_)))) (by (with_reducible repeat (first | refine blk_drewN ?_ _ | refine blk_drew ?_ | refine blk_alloc ?_ _)); exact BK152.out) rfl); rintro e w18 ⟨rfl, hb⟩; refine ⟨_, rfl, ?_⟩; have n0_ := aM (blk_below (g := gb152) (o := .cells #[.int .i64 a0_0, .int .i64 a0_1, .int .i64 a0_2, .slice A0_3 l0_3.length c0_3] 27 (0, 0)) (by (with_reducible repeat (first | refine blk_drewN ?_ _ | refine blk_drew ?_ | refine blk_alloc ?_ _)); exact BK152.out) hb); have n1_ := aM (below_step (by repeat (first | (with_reducible first | exact HB.out | apply bA | apply bN | apply bD | refine below_set ?_ GE152.out) | exact HB.out)) hb); clear BK152; clear HB; have BK152 := n0_; have HB := n1_; clear n0_ n1_; (try clear hb); (try clear hb2); (try clear hk); (try clear hi)) | (go_at_call 33; (with_reducible refine (spec_l00In.calls a1 (-2097152) 2097152 true _ A6.out).mono ?_); rintro e w' ⟨rfl, ⟨nd, rfl⟩⟩) | (go_at_call 33; (with_reducible refine (spec_l00In.calls a2 (-2097152) 2097152 false _ A8.out).mono ?_); rintro e w' ⟨rfl, ⟨nd, rfl⟩⟩))
    go_ret
    exact ⟨eQ, by repeat (first | (with_reducible first | exact HB.out | apply bA | apply bN | apply bD | refine below_set ?_ GE152.out) | exact HB.out)⟩
  ·replace c7 := Bool.eq_false_iff.mpr c7
   subst c7
   have H1 : (some false) = some r := by rw [if_neg (show ¬ (false = true) by decide)] at H; exact H
   clear H
   have H := H1
   clear H1
   obtain rfl := Option.some.inj H
   go_enter Tryd.func14, Tryd.ntmps14
   go_wp2_with (first | ((with_reducible refine gate_dst (N := 3) rfl ?_); refine box_event ?hg (N := 3) ?hd (cs := #[.int .i64 a0_0, .int .i64 a0_1, .int .i64 a0_2, .slice A0_3 l0_3.length c0_3]) (t := 27) ?hr ?_; (case hd => rfl); (case hg => rfl); (case hr => first | (go_simp; done) | (go_simp; rfl)); intro gb152 hg w19 hbox hb; have n0_ := aM (below_step bQ hb); have n1_ := aM (hbox); have n2_ := aM ((by rw [hg]; exact (below_size bQ) : w.heap.size ≤ gb152)); have n3_ := aM ((by rw [hg]; exact (below_size bQ) : w.heap.size ≤ gb152)); clear HB; have HB := n0_; have BK152 := n1_; have GW152 := n2_; have GE152 := n3_; clear n0_ n1_ n2_ n3_; clear hb hbox hg; have hcz20_0 : w19.cell? ⟨gb152, 0, none⟩ = some (.int .i64 a0_0) := (blk_cell BK152.out 0).trans rfl; have hcz20_1 : w19.cell? ⟨gb152, 1, none⟩ = some (.int .i64 a0_1) := (blk_cell BK152.out 1).trans rfl; have hcz20_2 : w19.cell? ⟨gb152, 2, none⟩ = some (.int .i64 a0_2) := (blk_cell BK152.out 2).trans rfl; have hcz20_3 : w19.cell? ⟨gb152, 3, none⟩ = some (.slice A0_3 l0_3.length c0_3) := (blk_cell BK152.out 3).trans rfl; have hfz20_0 := blk_frozen BK152.out 0; have hfz20_1 := blk_frozen BK152.out 1; have hfz20_2 := blk_frozen BK152.out 2; have hfz20_3 := blk_frozen BK152.out 3) | ((with_reducible refine gate_callee (f := 27) rfl ?_); refine goesL_ (some 7) rfl rfl Tryd.func27 (by kernel_rfl) rfl #[.pointer (some ⟨gb152, 0, none⟩)] rfl gQ ?_; (with_reducible refine (spec_l22Ok_at.calls k _ [(⟨a0_0, a0_1, a0_2, l0_3⟩ : S27)] 0 true _ ?side1 A4.out).mono ?_); (case side1 => exact RPtr.box (k27_mk _ _ (by exact HC0_3.out) (by repeat (first | exact (Kd.C_below HR0_3.out HB.out) | (with_reducible first | refine cA ?_ _ | refine cN ?_ _ | refine cD ?_)))) (by (with_reducible repeat (first | refine blk_drewN ?_ _ | refine blk_drew ?_ | refine blk_alloc ?_ _)); exact BK152.out) rfl); rintro e w21 ⟨rfl, hb⟩; refine ⟨_, rfl, ?_⟩; have n0_ := aM (blk_below (g := gb152) (o := .cells #[.int .i64 a0_0, .int .i64 a0_1, .int .i64 a0_2, .slice A0_3 l0_3.length c0_3] 27 (0, 0)) (by (with_reducible repeat (first | refine blk_drewN ?_ _ | refine blk_drew ?_ | refine blk_alloc ?_ _)); exact BK152.out) hb); have n1_ := aM (below_step (by repeat (first | (with_reducible first | exact HB.out | apply bA | apply bN | apply bD | refine below_set ?_ GE152.out) | exact HB.out)) hb); clear BK152; clear HB; have BK152 := n0_; have HB := n1_; clear n0_ n1_; (try clear hb); (try clear hb2); (try clear hk); (try clear hi)) | (go_at_call 33; (with_reducible refine (spec_l00In.calls a1 (-2097152) 2097152 false _ A6.out).mono ?_); rintro e w' ⟨rfl, ⟨nd, rfl⟩⟩))
   go_ret
   exact ⟨eQ, by repeat (first | (with_reducible first | exact HB.out | apply bA | apply bN | apply bD | refine below_set ?_ GE152.out) | exact HB.out)⟩
 ·replace c5 := Bool.eq_false_iff.mpr c5
  subst c5
  have H1 : (some false) = some r := by rw [if_neg (show ¬ (false = true) by decide)] at H; exact H
  clear H
  have H := H1
  clear H1
  obtain rfl := Option.some.inj H
  go_enter Tryd.func14, Tryd.ntmps14
  go_wp2_with (first | ((with_reducible refine gate_dst (N := 3) rfl ?_); refine box_event ?hg (N := 3) ?hd (cs := #[.int .i64 a0_0, .int .i64 a0_1, .int .i64 a0_2, .slice A0_3 l0_3.length c0_3]) (t := 27) ?hr ?_; (case hd => rfl); (case hg => rfl); (case hr => first | (go_simp; done) | (go_simp; rfl)); intro gb152 hg w22 hbox hb; have n0_ := aM (below_step bQ hb); have n1_ := aM (hbox); have n2_ := aM ((by rw [hg]; exact (below_size bQ) : w.heap.size ≤ gb152)); have n3_ := aM ((by rw [hg]; exact (below_size bQ) : w.heap.size ≤ gb152)); clear HB; have HB := n0_; have BK152 := n1_; have GW152 := n2_; have GE152 := n3_; clear n0_ n1_ n2_ n3_; clear hb hbox hg; have hcz23_0 : w22.cell? ⟨gb152, 0, none⟩ = some (.int .i64 a0_0) := (blk_cell BK152.out 0).trans rfl; have hcz23_1 : w22.cell? ⟨gb152, 1, none⟩ = some (.int .i64 a0_1) := (blk_cell BK152.out 1).trans rfl; have hcz23_2 : w22.cell? ⟨gb152, 2, none⟩ = some (.int .i64 a0_2) := (blk_cell BK152.out 2).trans rfl; have hcz23_3 : w22.cell? ⟨gb152, 3, none⟩ = some (.slice A0_3 l0_3.length c0_3) := (blk_cell BK152.out 3).trans rfl; have hfz23_0 := blk_frozen BK152.out 0; have hfz23_1 := blk_frozen BK152.out 1; have hfz23_2 := blk_frozen BK152.out 2; have hfz23_3 := blk_frozen BK152.out 3) | ((with_reducible refine gate_callee (f := 27) rfl ?_); refine goesL_ (some 7) rfl rfl Tryd.func27 (by kernel_rfl) rfl #[.pointer (some ⟨gb152, 0, none⟩)] rfl gQ ?_; (with_reducible refine (spec_l22Ok_at.calls k _ [(⟨a0_0, a0_1, a0_2, l0_3⟩ : S27)] 0 false _ ?side1 A4.out).mono ?_); (case side1 => exact RPtr.box (k27_mk _ _ (by exact HC0_3.out) (by repeat (first | exact (Kd.C_below HR0_3.out HB.out) | (with_reducible first | refine cA ?_ _ | refine cN ?_ _ | refine cD ?_)))) (by (with_reducible repeat (first | refine blk_drewN ?_ _ | refine blk_drew ?_ | refine blk_alloc ?_ _)); exact BK152.out) rfl); rintro e w24 ⟨rfl, hb⟩; refine ⟨_, rfl, ?_⟩; have n0_ := aM (blk_below (g := gb152) (o := .cells #[.int .i64 a0_0, .int .i64 a0_1, .int .i64 a0_2, .slice A0_3 l0_3.length c0_3] 27 (0, 0)) (by (with_reducible repeat (first | refine blk_drewN ?_ _ | refine blk_drew ?_ | refine blk_alloc ?_ _)); exact BK152.out) hb); have n1_ := aM (below_step (by repeat (first | (with_reducible first | exact HB.out | apply bA | apply bN | apply bD | refine below_set ?_ GE152.out) | exact HB.out)) hb); clear BK152; clear HB; have BK152 := n0_; have HB := n1_; clear n0_ n1_; (try clear hb); (try clear hb2); (try clear hk); (try clear hi)))
  go_ret
  exact ⟨eQ, by repeat (first | (with_reducible first | exact HB.out | apply bA | apply bN | apply bD | refine below_set ?_ GE152.out) | exact HB.out)⟩

/-! ### strings_Trim: function 31, given -/
def strings_Trim.f (a0 : ByteArray) (a1 : ByteArray) : Option (ByteArray) := Go.Proofs.YthngjfipdfckkaaDoor.Gv.trimF a0 a1
theorem strings_Trim.calls (a0 : ByteArray) (a1 : ByteArray) (r : ByteArray) (w : World) (h : strings_Trim.f a0 a1 = some r) :
  Calls Tryd.prog 31 #[.string a0, .string a1] w fun e w' => e = .returned (.string r) ∧ Below w.heap.size w w' := Go.Proofs.YthngjfipdfckkaaDoor.Gv.trimF_calls a0 a1 r w h

/-! ### impl_ValidBitmap_1_at: function 30 -/
def impl_ValidBitmap_1_at.f (a0 : ByteArray) (l1_0 : List (S27)) (a1_1 : Int) : Option (Bool) := if (a0.size : Int) = ((rd_T27 l1_0 a1_1).f2) then ((strings_Trim.f a0 (⟨#[35, 46]⟩ : ByteArray)).bind fun t159 => (some (t159.toList != ([] : List UInt8)))) else (some true)
set_option maxHeartbeats 8000000 in
set_option maxRecDepth 100000 in
theorem impl_ValidBitmap_1_at.calls (a0 : ByteArray) (p1_ : Addr) (l1_0 : List (S27)) (a1_1 : Int) (r : Bool) (w : World) (hP1_ : RPtr k27 ((a1_1 : Int).toNat * 4) w p1_ l1_0 a1_1) (h : impl_ValidBitmap_1_at.f a0 l1_0 a1_1 = some r) :
  Calls Tryd.prog 30 #[.string a0, .pointer (some p1_)] w fun e w' => e = .returned (.bool r) ∧ Below w.heap.size w w' := by
 obtain ⟨ad1_, rfl, hr1_0, hi1_, hj1_⟩ := hP1_
 have hc1_0 : l1_0.length ≤ l1_0.length := Nat.le_refl _
 replace hi1_ := decide_eq_true hi1_
 replace hj1_ := decide_eq_true hj1_
 obtain ⟨ad9010, A9010_3, c9010_3, e9010, HX9010_0, HX9010_1, HX9010_2, HX9010_3, HC9010_3, HR9010_3⟩ := at_T27 hr1_0 a1_1 (of_decide_eq_true hi1_) (of_decide_eq_true hj1_)
 obtain rfl : ad1_ = ad9010 := (by injection e9010)
 replace HX9010_0 := aM HX9010_0
 replace HX9010_1 := aM HX9010_1
 replace HX9010_2 := aM HX9010_2
 replace HX9010_3 := aM HX9010_3
 replace HC9010_3 := aM HC9010_3
 replace HR9010_3 := aM HR9010_3
 have HR1_0 := aM hr1_0
 have HC1_0 := aM hc1_0
 clear hr1_0 hc1_0
 have HB := aM (Below.refl w.heap.size w)
 have H : (if (a0.size : Int) = ((rd_T27 l1_0 a1_1).f2) then ((strings_Trim.f a0 (⟨#[35, 46]⟩ : ByteArray)).bind fun t159 => (some (t159.toList != ([] : List UInt8)))) else (some true)) = some r := h
 clear h
 by_cases c3 : (a0.size : Int) = ((rd_T27 l1_0 a1_1).f2)
 ·rw [if_pos c3] at H
  have c3b0 : ((a0.size : Int) == ((rd_T27 l1_0 a1_1).f2)) = true := beq_iff_eq.mpr c3
  have c3b1 : ((a0.size : Int) != ((rd_T27 l1_0 a1_1).f2)) = false := bne_eq_false_iff_eq.mpr c3
  clear c3
  replace H := Option.bind_eq_some_iff.mp H
  obtain ⟨t159, A40, H⟩ := H
  replace H : (some (t159.toList != ([] : List UInt8))) = some r := H
  have A4 := aM A40
  clear A40
  obtain rfl := Option.some.inj H
  have hx158_0 := HX9010_0.out
  have hx158_1 := HX9010_1.out
  have hx158_2 := HX9010_2.out
  have hx158_3 := HX9010_3.out
  have HR158_3 := HR9010_3
  have HC158_3 := HC9010_3
  go_enter Tryd.func30, Tryd.ntmps30
  go_wp2_with (first | (go_at_call 31; (with_reducible refine (strings_Trim.calls a0 (⟨#[35, 46]⟩ : ByteArray) t159 _ A4.out).mono ?_); rintro e w5 ⟨rfl, hb⟩; have n0_ := aM (below_step bQ hb); clear HB; have HB := n0_; clear n0_; (try clear hb); (try clear hb2); (try clear hk); (try clear hi)))
  go_ret
  exact ⟨eQ, bQ⟩
 ·rw [if_neg c3] at H
  have c3b0 : ((a0.size : Int) == ((rd_T27 l1_0 a1_1).f2)) = false := beq_eq_false_iff_ne.mpr c3
  have c3b1 : ((a0.size : Int) != ((rd_T27 l1_0 a1_1).f2)) = true := bne_iff_ne.mpr c3
  obtain rfl := Option.some.inj H
  have hx158_0 := HX9010_0.out
  have hx158_1 := HX9010_1.out
  have hx158_2 := HX9010_2.out
  have hx158_3 := HX9010_3.out
  have HR158_3 := HR9010_3
  have HC158_3 := HC9010_3
  go_enter Tryd.func30, Tryd.ntmps30
  go_wp2
  go_ret
  exact ⟨eQ, bQ⟩

end Go.Proofs.YthngjfipdfckkaaDoor.QFnExactPixelAt
