/- What some Go functions answer, each as a Lean function, and that the machine answers so: written by a program of this session out of the translation. -/
import Derived.Test.YtfabhfdjabehpaaQFnExactSourceTextx0
import Derived.Test.YtfabhfdjabehpaaQFnExactSourceTextx5
namespace Go.Proofs.Ytfabhfdjabehpaa.QFnExactSourceText
open Go.RowKit Go.Proofs.YtfabhfdjabehpaaW.PrintWords Go.Proofs.YtfabhfdjabehpaaW.PrintLast Go.Proofs.YtfabhfdjabehpaaW.PrintMore Go.Proofs.Ytfabhfdjabehpaa.Rp
attribute [local go_sem] max2_int min2_int max_two min_two max_three min_three max_four min_four   -- for this text's walks alone
set_option linter.unusedVariables false
set_option linter.unusedSimpArgs false

/-! ### spec_l24Text_at: function 34 -/
abbrev mkspec_l464_0 : Array Bool := #[ff,ff,ff,ff,ff,ff,ff,ff,ff,ff,ff,ff,ff,ff,ff,ff,ff,ff,ff,ff,ff,ff,ff,ff,ff,ff,ff,ff]
abbrev mkspec_l464_1 : Array Bool := #[tt,ff,ff,ff,ff,ff,ff,ff,ff,ff,ff,ff,ff,ff,ff,ff,ff,ff,ff,ff,ff,ff,ff,ff,ff,ff,ff,ff]
abbrev mkspec_l464_2 : Array Bool := #[tt,tt,ff,ff,ff,ff,ff,ff,ff,ff,ff,ff,ff,ff,ff,ff,ff,ff,ff,ff,ff,ff,ff,ff,ff,ff,ff,ff]
abbrev mkspec_l464_3 : Array Bool := #[tt,tt,tt,ff,ff,ff,ff,ff,ff,ff,ff,ff,ff,ff,ff,ff,ff,ff,ff,ff,ff,ff,ff,ff,ff,ff,ff,ff]
abbrev mkspec_l464_4 : Array Bool := #[tt,tt,tt,ff,ff,ff,ff,tt,ff,ff,ff,ff,ff,ff,ff,ff,ff,ff,ff,ff,ff,ff,ff,ff,ff,ff,ff,ff]
abbrev mkspec_l464_5 : Array Bool := #[tt,tt,tt,ff,ff,ff,ff,tt,tt,ff,ff,ff,ff,ff,ff,ff,ff,ff,ff,ff,ff,ff,ff,ff,ff,ff,ff,ff]
abbrev mkspec_l464_6 : Array Bool := #[tt,tt,tt,ff,ff,ff,ff,tt,tt,tt,ff,ff,ff,ff,ff,ff,ff,ff,ff,ff,ff,ff,ff,ff,ff,ff,ff,ff]
abbrev mkspec_l464_7 : Array Bool := #[tt,tt,tt,ff,ff,ff,ff,tt,tt,tt,ff,ff,ff,ff,tt,ff,ff,ff,ff,ff,ff,ff,ff,ff,ff,ff,ff,ff]
abbrev mkspec_l464_8 : Array Bool := #[tt,tt,tt,ff,ff,ff,ff,tt,tt,tt,ff,ff,ff,ff,tt,tt,ff,ff,ff,ff,ff,ff,ff,ff,ff,ff,ff,ff]
abbrev mkspec_l464_9 : Array Bool := #[tt,tt,tt,ff,ff,ff,ff,tt,tt,tt,ff,ff,ff,ff,tt,tt,tt,ff,ff,ff,ff,ff,ff,ff,ff,ff,ff,ff]
abbrev mkspec_l464_10 : Array Bool := #[tt,tt,tt,ff,ff,ff,ff,tt,tt,tt,ff,ff,ff,ff,tt,tt,tt,ff,ff,ff,ff,tt,ff,ff,ff,ff,ff,ff]
abbrev mkspec_l464_11 : Array Bool := #[tt,tt,tt,ff,ff,ff,ff,tt,tt,tt,ff,ff,ff,ff,tt,tt,tt,ff,ff,ff,ff,tt,tt,ff,ff,ff,ff,ff]
abbrev mkspec_l464_12 : Array Bool := #[tt,tt,tt,ff,ff,ff,ff,tt,tt,tt,ff,ff,ff,ff,tt,tt,tt,ff,ff,ff,ff,tt,tt,tt,ff,ff,ff,ff]
abbrev mkspec_l464_13 : Array Bool := #[tt,tt,tt,tt,ff,ff,ff,tt,tt,tt,ff,ff,ff,ff,tt,tt,tt,ff,ff,ff,ff,tt,tt,tt,ff,ff,ff,ff]
abbrev mkspec_l464_14 : Array Bool := #[tt,tt,tt,tt,ff,ff,ff,tt,tt,tt,tt,ff,ff,ff,tt,tt,tt,ff,ff,ff,ff,tt,tt,tt,ff,ff,ff,ff]
abbrev mkspec_l464_15 : Array Bool := #[tt,tt,tt,tt,ff,ff,ff,tt,tt,tt,tt,ff,ff,ff,tt,tt,tt,tt,ff,ff,ff,tt,tt,tt,ff,ff,ff,ff]
abbrev mkspec_l464_16 : Array Bool := #[tt,tt,tt,tt,ff,ff,ff,tt,tt,tt,tt,ff,ff,ff,tt,tt,tt,tt,ff,ff,ff,tt,tt,tt,tt,ff,ff,ff]
abbrev mkspec_l464_17 : Array Bool := #[tt,tt,tt,tt,tt,ff,ff,tt,tt,tt,tt,ff,ff,ff,tt,tt,tt,tt,ff,ff,ff,tt,tt,tt,tt,ff,ff,ff]
abbrev mkspec_l464_18 : Array Bool := #[tt,tt,tt,tt,tt,tt,ff,tt,tt,tt,tt,ff,ff,ff,tt,tt,tt,tt,ff,ff,ff,tt,tt,tt,tt,ff,ff,ff]
abbrev mkspec_l464_19 : Array Bool := #[tt,tt,tt,tt,tt,tt,tt,tt,tt,tt,tt,ff,ff,ff,tt,tt,tt,tt,ff,ff,ff,tt,tt,tt,tt,ff,ff,ff]
abbrev mkspec_l464_20 : Array Bool := #[tt,tt,tt,tt,tt,tt,tt,tt,tt,tt,tt,tt,ff,ff,tt,tt,tt,tt,ff,ff,ff,tt,tt,tt,tt,ff,ff,ff]
abbrev mkspec_l464_21 : Array Bool := #[tt,tt,tt,tt,tt,tt,tt,tt,tt,tt,tt,tt,tt,ff,tt,tt,tt,tt,ff,ff,ff,tt,tt,tt,tt,ff,ff,ff]
abbrev mkspec_l464_22 : Array Bool := #[tt,tt,tt,tt,tt,tt,tt,tt,tt,tt,tt,tt,tt,tt,tt,tt,tt,tt,ff,ff,ff,tt,tt,tt,tt,ff,ff,ff]
abbrev mkspec_l464_23 : Array Bool := #[tt,tt,tt,tt,tt,tt,tt,tt,tt,tt,tt,tt,tt,tt,tt,tt,tt,tt,tt,ff,ff,tt,tt,tt,tt,ff,ff,ff]
abbrev mkspec_l464_24 : Array Bool := #[tt,tt,tt,tt,tt,tt,tt,tt,tt,tt,tt,tt,tt,tt,tt,tt,tt,tt,tt,tt,ff,tt,tt,tt,tt,ff,ff,ff]
abbrev mkspec_l464_25 : Array Bool := #[tt,tt,tt,tt,tt,tt,tt,tt,tt,tt,tt,tt,tt,tt,tt,tt,tt,tt,tt,tt,tt,tt,tt,tt,tt,ff,ff,ff]
abbrev mkspec_l464_26 : Array Bool := #[tt,tt,tt,tt,tt,tt,tt,tt,tt,tt,tt,tt,tt,tt,tt,tt,tt,tt,tt,tt,tt,tt,tt,tt,tt,tt,ff,ff]
abbrev mkspec_l464_27 : Array Bool := #[tt,tt,tt,tt,tt,tt,tt,tt,tt,tt,tt,tt,tt,tt,tt,tt,tt,tt,tt,tt,tt,tt,tt,tt,tt,tt,tt,ff]
abbrev mkspec_l464_28 : Array Bool := #[tt,tt,tt,tt,tt,tt,tt,tt,tt,tt,tt,tt,tt,tt,tt,tt,tt,tt,tt,tt,tt,tt,tt,tt,tt,tt,tt,tt]
abbrev mkspec_l464_29 : Array Bool := #[ff,ff,ff,ff,ff,ff,ff,ff,ff,ff,ff,ff,ff,ff,ff,ff,ff,ff,ff,ff,ff,ff]
abbrev mkspec_l464_30 : Array Bool := #[tt,ff,ff,ff,ff,ff,ff,ff,ff,ff,ff,ff,ff,ff,ff,ff,ff,ff,ff,ff,ff,ff]
abbrev mkspec_l464_31 : Array Bool := #[tt,tt,ff,ff,ff,ff,ff,ff,ff,ff,ff,ff,ff,ff,ff,ff,ff,ff,ff,ff,ff,ff]
abbrev mkspec_l464_32 : Array Bool := #[tt,tt,tt,ff,ff,ff,ff,ff,ff,ff,ff,ff,ff,ff,ff,ff,ff,ff,ff,ff,ff,ff]
abbrev mkspec_l464_33 : Array Bool := #[tt,tt,tt,ff,ff,ff,ff,ff,tt,ff,ff,ff,ff,ff,ff,ff,ff,ff,ff,ff,ff,ff]
abbrev mkspec_l464_34 : Array Bool := #[tt,tt,tt,ff,ff,ff,ff,ff,tt,tt,ff,ff,ff,ff,ff,ff,ff,ff,ff,ff,ff,ff]
abbrev mkspec_l464_35 : Array Bool := #[tt,tt,tt,ff,ff,ff,ff,ff,tt,tt,tt,ff,ff,ff,ff,ff,ff,ff,ff,ff,ff,ff]
abbrev mkspec_l464_36 : Array Bool := #[tt,tt,tt,ff,ff,ff,ff,ff,tt,tt,tt,ff,ff,ff,ff,ff,tt,ff,ff,ff,ff,ff]
abbrev mkspec_l464_37 : Array Bool := #[tt,tt,tt,ff,ff,ff,ff,ff,tt,tt,tt,ff,ff,ff,ff,ff,tt,tt,ff,ff,ff,ff]
abbrev mkspec_l464_38 : Array Bool := #[tt,tt,tt,ff,ff,ff,ff,ff,tt,tt,tt,ff,ff,ff,ff,ff,tt,tt,tt,ff,ff,ff]
abbrev mkspec_l464_39 : Array Bool := #[tt,tt,tt,tt,ff,ff,ff,ff,tt,tt,tt,ff,ff,ff,ff,ff,tt,tt,tt,ff,ff,ff]
abbrev mkspec_l464_40 : Array Bool := #[tt,tt,tt,tt,tt,ff,ff,ff,tt,tt,tt,ff,ff,ff,ff,ff,tt,tt,tt,ff,ff,ff]
abbrev mkspec_l464_41 : Array Bool := #[tt,tt,tt,tt,tt,tt,ff,ff,tt,tt,tt,ff,ff,ff,ff,ff,tt,tt,tt,ff,ff,ff]
abbrev mkspec_l464_42 : Array Bool := #[tt,tt,tt,tt,tt,tt,tt,ff,tt,tt,tt,ff,ff,ff,ff,ff,tt,tt,tt,ff,ff,ff]
abbrev mkspec_l464_43 : Array Bool := #[tt,tt,tt,tt,tt,tt,tt,tt,tt,tt,tt,ff,ff,ff,ff,ff,tt,tt,tt,ff,ff,ff]
abbrev mkspec_l464_44 : Array Bool := #[tt,tt,tt,tt,tt,tt,tt,tt,tt,tt,tt,tt,ff,ff,ff,ff,tt,tt,tt,ff,ff,ff]
abbrev mkspec_l464_45 : Array Bool := #[tt,tt,tt,tt,tt,tt,tt,tt,tt,tt,tt,tt,tt,ff,ff,ff,tt,tt,tt,ff,ff,ff]
abbrev mkspec_l464_46 : Array Bool := #[tt,tt,tt,tt,tt,tt,tt,tt,tt,tt,tt,tt,tt,tt,ff,ff,tt,tt,tt,ff,ff,ff]
abbrev mkspec_l464_47 : Array Bool := #[tt,tt,tt,tt,tt,tt,tt,tt,tt,tt,tt,tt,tt,tt,tt,ff,tt,tt,tt,ff,ff,ff]
abbrev mkspec_l464_48 : Array Bool := #[tt,tt,tt,tt,tt,tt,tt,tt,tt,tt,tt,tt,tt,tt,tt,tt,tt,tt,tt,ff,ff,ff]
abbrev mkspec_l464_49 : Array Bool := #[tt,tt,tt,tt,tt,tt,tt,tt,tt,tt,tt,tt,tt,tt,tt,tt,tt,tt,tt,tt,ff,ff]
abbrev mkspec_l464_50 : Array Bool := #[tt,tt,tt,tt,tt,tt,tt,tt,tt,tt,tt,tt,tt,tt,tt,tt,tt,tt,tt,tt,tt,ff]
abbrev mkspec_l464_51 : Array Bool := #[ff,ff,ff,ff,ff,ff,ff,ff,ff,ff,ff,ff,ff,ff,ff,ff,ff,ff,ff]
abbrev mkspec_l464_52 : Array Bool := #[tt,tt,tt,tt,tt,tt,tt,tt,tt,tt,tt,tt,tt,tt,tt,tt,tt,tt,tt,tt,tt,tt]
abbrev mkspec_l464_53 : Array Bool := #[tt,ff,ff,ff,ff,ff,ff,ff,ff,ff,ff,ff,ff,ff,ff,ff,ff,ff,ff]
abbrev mkspec_l464_54 : Array Bool := #[tt,tt,ff,ff,ff,ff,ff,ff,ff,ff,ff,ff,ff,ff,ff,ff,ff,ff,ff]
abbrev mkspec_l464_55 : Array Bool := #[tt,tt,tt,ff,ff,ff,ff,ff,ff,ff,ff,ff,ff,ff,ff,ff,ff,ff,ff]
abbrev mkspec_l464_56 : Array Bool := #[tt,tt,tt,ff,ff,ff,tt,ff,ff,ff,ff,ff,ff,ff,ff,ff,ff,ff,ff]
abbrev mkspec_l464_57 : Array Bool := #[tt,tt,tt,ff,ff,ff,tt,tt,ff,ff,ff,ff,ff,ff,ff,ff,ff,ff,ff]
abbrev mkspec_l464_58 : Array Bool := #[tt,tt,tt,ff,ff,ff,tt,tt,tt,ff,ff,ff,ff,ff,ff,ff,ff,ff,ff]
abbrev mkspec_l464_59 : Array Bool := #[tt,tt,tt,ff,ff,ff,tt,tt,tt,ff,ff,ff,tt,ff,ff,ff,ff,ff,ff]
abbrev mkspec_l464_60 : Array Bool := #[tt,tt,tt,ff,ff,ff,tt,tt,tt,ff,ff,ff,tt,tt,ff,ff,ff,ff,ff]
abbrev mkspec_l464_61 : Array Bool := #[tt,tt,tt,ff,ff,ff,tt,tt,tt,ff,ff,ff,tt,tt,tt,ff,ff,ff,ff]
abbrev mkspec_l464_62 : Array Bool := #[tt,tt,tt,tt,ff,ff,tt,tt,tt,ff,ff,ff,tt,tt,tt,ff,ff,ff,ff]
abbrev mkspec_l464_63 : Array Bool := #[tt,tt,tt,tt,tt,ff,tt,tt,tt,ff,ff,ff,tt,tt,tt,ff,ff,ff,ff]
abbrev mkspec_l464_64 : Array Bool := #[tt,tt,tt,tt,tt,tt,tt,tt,tt,ff,ff,ff,tt,tt,tt,ff,ff,ff,ff]
abbrev mkspec_l464_65 : Array Bool := #[tt,tt,tt,tt,tt,tt,tt,tt,tt,tt,ff,ff,tt,tt,tt,ff,ff,ff,ff]
abbrev mkspec_l464_66 : Array Bool := #[tt,tt,tt,tt,tt,tt,tt,tt,tt,tt,ff,ff,tt,tt,tt,tt,ff,ff,ff]
abbrev mkspec_l464_67 : Array Bool := #[tt,tt,tt,tt,tt,tt,tt,tt,tt,tt,tt,ff,tt,tt,tt,tt,ff,ff,ff]
abbrev mkspec_l464_68 : Array Bool := #[tt,tt,tt,tt,tt,tt,tt,tt,tt,tt,tt,tt,tt,tt,tt,tt,ff,ff,ff]
abbrev mkspec_l464_69 : Array Bool := #[tt,tt,tt,tt,tt,tt,tt,tt,tt,tt,tt,tt,tt,tt,tt,tt,tt,ff,ff]
abbrev mkspec_l464_70 : Array Bool := #[tt,tt,tt,tt,tt,tt,tt,tt,tt,tt,tt,tt,tt,tt,tt,tt,tt,tt,ff]
abbrev mkspec_l464_71 : Array Bool := #[tt,tt,tt,tt,tt,tt,tt,tt,tt,tt,tt,tt,tt,tt,tt,tt,tt,tt,tt]
abbrev mkspec_l464_72 : Array Bool := #[ff,ff,ff,ff,ff,ff,ff,ff,ff,ff,ff,ff,ff,ff]
abbrev mkspec_l464_73 : Array Bool := #[tt,ff,ff,ff,ff,ff,ff,ff,ff,ff,ff,ff,ff,ff]
abbrev mkspec_l464_74 : Array Bool := #[tt,tt,ff,ff,ff,ff,ff,ff,ff,ff,ff,ff,ff,ff]
abbrev mkspec_l464_75 : Array Bool := #[tt,tt,tt,ff,ff,ff,ff,ff,ff,ff,ff,ff,ff,ff]
abbrev mkspec_l464_76 : Array Bool := #[tt,tt,tt,ff,ff,ff,ff,tt,ff,ff,ff,ff,ff,ff]
abbrev mkspec_l464_77 : Array Bool := #[tt,tt,tt,ff,ff,ff,ff,tt,tt,ff,ff,ff,ff,ff]
abbrev mkspec_l464_78 : Array Bool := #[tt,tt,tt,ff,ff,ff,ff,tt,tt,tt,ff,ff,ff,ff]
abbrev mkspec_l464_79 : Array Bool := #[ff,ff,ff,ff,ff,ff,ff,ff,ff,ff,ff,ff,ff]
abbrev mkspec_l464_80 : Array Bool := #[tt,tt,tt,tt,ff,ff,ff,tt,tt,tt,ff,ff,ff,ff]
abbrev mkspec_l464_81 : Array Bool := #[tt,ff,ff,ff,ff,ff,ff,ff,ff,ff,ff,ff,ff]
abbrev mkspec_l464_82 : Array Bool := #[tt,tt,tt,tt,ff,ff,ff,tt,tt,tt,tt,ff,ff,ff]
abbrev mkspec_l464_83 : Array Bool := #[tt,tt,ff,ff,ff,ff,ff,ff,ff,ff,ff,ff,ff]
abbrev mkspec_l464_84 : Array Bool := #[tt,tt,tt,tt,tt,ff,ff,tt,tt,tt,tt,ff,ff,ff]
abbrev mkspec_l464_85 : Array Bool := #[tt,tt,tt,ff,ff,ff,ff,ff,ff,ff,ff,ff,ff]
abbrev mkspec_l464_86 : Array Bool := #[tt,tt,tt,tt,tt,tt,ff,tt,tt,tt,tt,ff,ff,ff]
abbrev mkspec_l464_87 : Array Bool := #[tt,tt,tt,ff,ff,ff,tt,ff,ff,ff,ff,ff,ff]
abbrev mkspec_l464_88 : Array Bool := #[tt,tt,tt,tt,tt,tt,tt,tt,tt,tt,tt,ff,ff,ff]
abbrev mkspec_l464_89 : Array Bool := #[tt,tt,tt,ff,ff,ff,tt,tt,ff,ff,ff,ff,ff]
abbrev mkspec_l464_90 : Array Bool := #[tt,tt,tt,tt,tt,tt,tt,tt,tt,tt,tt,tt,ff,ff]
abbrev mkspec_l464_91 : Array Bool := #[tt,tt,tt,ff,ff,ff,tt,tt,tt,ff,ff,ff,ff]
abbrev mkspec_l464_92 : Array Bool := #[tt,tt,tt,tt,tt,tt,tt,tt,tt,tt,tt,tt,tt,ff]
abbrev mkspec_l464_93 : Array Bool := #[tt,tt,tt,tt,ff,ff,tt,tt,tt,ff,ff,ff,ff]
abbrev mkspec_l464_94 : Array Bool := #[ff,ff,ff,ff,ff,ff,ff,ff,ff,ff,ff,ff]
abbrev mkspec_l464_95 : Array Bool := #[tt,tt,tt,tt,tt,tt,tt,tt,tt,tt,tt,tt,tt,tt]
abbrev mkspec_l464_96 : Array Bool := #[tt,tt,tt,tt,tt,ff,tt,tt,tt,ff,ff,ff,ff]
abbrev mkspec_l464_97 : Array Bool := #[tt,ff,ff,ff,ff,ff,ff,ff,ff,ff,ff,ff]
abbrev mkspec_l464_98 : Array Bool := #[tt,tt,tt,tt,tt,tt,tt,tt,tt,ff,ff,ff,ff]
abbrev mkspec_l464_99 : Array Bool := #[tt,tt,ff,ff,ff,ff,ff,ff,ff,ff,ff,ff]
abbrev mkspec_l464_100 : Array Bool := #[tt,tt,tt,tt,tt,tt,tt,tt,tt,tt,ff,ff,ff]
abbrev mkspec_l464_101 : Array Bool := #[tt,tt,tt,ff,ff,ff,ff,ff,ff,ff,ff,ff]
abbrev mkspec_l464_102 : Array Bool := #[tt,tt,tt,tt,tt,tt,tt,tt,tt,tt,tt,ff,ff]
abbrev mkspec_l464_103 : Array Bool := #[tt,tt,tt,ff,ff,tt,ff,ff,ff,ff,ff,ff]
abbrev mkspec_l464_104 : Array Bool := #[tt,tt,tt,tt,tt,tt,tt,tt,tt,tt,tt,tt,ff]
abbrev mkspec_l464_105 : Array Bool := #[tt,tt,tt,ff,ff,tt,tt,ff,ff,ff,ff,ff]
abbrev mkspec_l464_106 : Array Bool := #[tt,tt,tt,tt,tt,tt,tt,tt,tt,tt,tt,tt,tt]
abbrev mkspec_l464_107 : Array Bool := #[tt,tt,tt,ff,ff,tt,tt,tt,ff,ff,ff,ff]
abbrev mkspec_l464_108 : Array Bool := #[tt,tt,tt,tt,ff,tt,tt,tt,ff,ff,ff,ff]
abbrev mkspec_l464_109 : Array Bool := #[tt,tt,tt,tt,tt,tt,tt,tt,ff,ff,ff,ff]
abbrev mkspec_l464_110 : Array Bool := #[tt,tt,tt,tt,tt,tt,tt,tt,tt,ff,ff,ff]
abbrev mkspec_l464_111 : Array Bool := #[tt,tt,tt,tt,tt,tt,tt,tt,tt,tt,ff,ff]
abbrev mkspec_l464_112 : Array Bool := #[tt,tt,tt,tt,tt,tt,tt,tt,tt,tt,tt,ff]
abbrev mkspec_l464_113 : Array Bool := #[tt,tt,tt,tt,tt,tt,tt,tt,tt,tt,tt,tt]
def spec_l24Text_at.f (k : Nat) (l0_0 : List (S39)) (a0_1 : Int) : Option (ByteArray) := if ((rd_T39 l0_0 a0_1).f0) = 1 then (if 6 + ((rd_T39 l0_0 a0_1).f1).size ≤ 9223372036854775807 then (if ((⟨#[99, 108, 97, 115, 115, 32]⟩ : ByteArray) ++ ((rd_T39 l0_0 a0_1).f1)).size + 2 ≤ 9223372036854775807 then ((spec_l24Words.f k ((rd_T39 l0_0 a0_1).f3)).bind fun t258 => (if (((⟨#[99, 108, 97, 115, 115, 32]⟩ : ByteArray) ++ ((rd_T39 l0_0 a0_1).f1)) ++ (⟨#[32, 61]⟩ : ByteArray)).size + t258.size ≤ 9223372036854775807 then (some ((((⟨#[99, 108, 97, 115, 115, 32]⟩ : ByteArray) ++ ((rd_T39 l0_0 a0_1).f1)) ++ (⟨#[32, 61]⟩ : ByteArray)) ++ t258)) else (none))) else (none)) else (none)) else (if ((rd_T39 l0_0 a0_1).f0) = 2 then (if 7 + ((rd_T39 l0_0 a0_1).f1).size ≤ 9223372036854775807 then (some ((⟨#[108, 111, 111, 107, 117, 112, 32]⟩ : ByteArray) ++ ((rd_T39 l0_0 a0_1).f1))) else (none)) else (if ((rd_T39 l0_0 a0_1).f0) = 3 then (if (wrap64 ((((rd_T39 l0_0 a0_1).f2).length : Int) + (((rd_T39 l0_0 a0_1).f4).length : Int))) = 0 then ((spec_l24Words.f k ((rd_T39 l0_0 a0_1).f3)).bind fun t263 => (if 3 + t263.size ≤ 9223372036854775807 then (if ((⟨#[115, 117, 98]⟩ : ByteArray) ++ t263).size + 3 ≤ 9223372036854775807 then ((spec_l24Words.f k ((rd_T39 l0_0 a0_1).f5)).bind fun t265 => (if (((⟨#[115, 117, 98]⟩ : ByteArray) ++ t263) ++ (⟨#[32, 98, 121]⟩ : ByteArray)).size + t265.size ≤ 9223372036854775807 then (some ((((⟨#[115, 117, 98]⟩ : ByteArray) ++ t263) ++ (⟨#[32, 98, 121]⟩ : ByteArray)) ++ t265)) else (none))) else (none)) else (none))) else ((spec_l24Words.f k ((rd_T39 l0_0 a0_1).f2)).bind fun t267 => (if 3 + t267.size ≤ 9223372036854775807 then (if ((⟨#[115, 117, 98]⟩ : ByteArray) ++ t267).size + 2 ≤ 9223372036854775807 then ((spec_l24Words.f k ((rd_T39 l0_0 a0_1).f3)).bind fun t269 => (if (((⟨#[115, 117, 98]⟩ : ByteArray) ++ t267) ++ (⟨#[32, 124]⟩ : ByteArray)).size + t269.size ≤ 9223372036854775807 then (if ((((⟨#[115, 117, 98]⟩ : ByteArray) ++ t267) ++ (⟨#[32, 124]⟩ : ByteArray)) ++ t269).size + 2 ≤ 9223372036854775807 then ((spec_l24Words.f k ((rd_T39 l0_0 a0_1).f4)).bind fun t271 => (if (((((⟨#[115, 117, 98]⟩ : ByteArray) ++ t267) ++ (⟨#[32, 124]⟩ : ByteArray)) ++ t269) ++ (⟨#[32, 124]⟩ : ByteArray)).size + t271.size ≤ 9223372036854775807 then (if ((((((⟨#[115, 117, 98]⟩ : ByteArray) ++ t267) ++ (⟨#[32, 124]⟩ : ByteArray)) ++ t269) ++ (⟨#[32, 124]⟩ : ByteArray)) ++ t271).size + 3 ≤ 9223372036854775807 then ((spec_l24Words.f k ((rd_T39 l0_0 a0_1).f5)).bind fun t273 => (if (((((((⟨#[115, 117, 98]⟩ : ByteArray) ++ t267) ++ (⟨#[32, 124]⟩ : ByteArray)) ++ t269) ++ (⟨#[32, 124]⟩ : ByteArray)) ++ t271) ++ (⟨#[32, 98, 121]⟩ : ByteArray)).size + t273.size ≤ 9223372036854775807 then (some ((((((((⟨#[115, 117, 98]⟩ : ByteArray) ++ t267) ++ (⟨#[32, 124]⟩ : ByteArray)) ++ t269) ++ (⟨#[32, 124]⟩ : ByteArray)) ++ t271) ++ (⟨#[32, 98, 121]⟩ : ByteArray)) ++ t273)) else (none))) else (none)) else (none))) else (none)) else (none))) else (none)) else (none)))) else (if ((rd_T39 l0_0 a0_1).f0) = 5 then ((spec_l24Words.f k ((rd_T39 l0_0 a0_1).f3)).bind fun t275 => (if 4 + t275.size ≤ 9223372036854775807 then (if ((⟨#[107, 101, 114, 110]⟩ : ByteArray) ++ t275).size + 1 ≤ 9223372036854775807 then ((spec_l01Dec.f k ((rd_T39 l0_0 a0_1).f6)).bind fun t277 => (if (((⟨#[107, 101, 114, 110]⟩ : ByteArray) ++ t275) ++ (⟨#[32]⟩ : ByteArray)).size + t277.size ≤ 9223372036854775807 then (some ((((⟨#[107, 101, 114, 110]⟩ : ByteArray) ++ t275) ++ (⟨#[32]⟩ : ByteArray)) ++ t277)) else (none))) else (none)) else (none))) else (if ((rd_T39 l0_0 a0_1).f0) = 6 then (if 0 < (((rd_T39 l0_0 a0_1).f3).length : Int) then (if 5 + (rdOf ByteArray.empty ((rd_T39 l0_0 a0_1).f3) 0).size ≤ 9223372036854775807 then (if ((⟨#[109, 97, 114, 107, 32]⟩ : ByteArray) ++ (rdOf ByteArray.empty ((rd_T39 l0_0 a0_1).f3) 0)).size + 4 ≤ 9223372036854775807 then (if 1 < (((rd_T39 l0_0 a0_1).f3).length : Int) then (if (((⟨#[109, 97, 114, 107, 32]⟩ : ByteArray) ++ (rdOf ByteArray.empty ((rd_T39 l0_0 a0_1).f3) 0)) ++ (⟨#[32, 111, 110, 32]⟩ : ByteArray)).size + (rdOf ByteArray.empty ((rd_T39 l0_0 a0_1).f3) 1).size ≤ 9223372036854775807 then (if ((((⟨#[109, 97, 114, 107, 32]⟩ : ByteArray) ++ (rdOf ByteArray.empty ((rd_T39 l0_0 a0_1).f3) 0)) ++ (⟨#[32, 111, 110, 32]⟩ : ByteArray)) ++ (rdOf ByteArray.empty ((rd_T39 l0_0 a0_1).f3) 1)).size + 4 ≤ 9223372036854775807 then (if (((((⟨#[109, 97, 114, 107, 32]⟩ : ByteArray) ++ (rdOf ByteArray.empty ((rd_T39 l0_0 a0_1).f3) 0)) ++ (⟨#[32, 111, 110, 32]⟩ : ByteArray)) ++ (rdOf ByteArray.empty ((rd_T39 l0_0 a0_1).f3) 1)) ++ (⟨#[32, 97, 116, 32]⟩ : ByteArray)).size + ((rd_T39 l0_0 a0_1).f1).size ≤ 9223372036854775807 then (some ((((((⟨#[109, 97, 114, 107, 32]⟩ : ByteArray) ++ (rdOf ByteArray.empty ((rd_T39 l0_0 a0_1).f3) 0)) ++ (⟨#[32, 111, 110, 32]⟩ : ByteArray)) ++ (rdOf ByteArray.empty ((rd_T39 l0_0 a0_1).f3) 1)) ++ (⟨#[32, 97, 116, 32]⟩ : ByteArray)) ++ ((rd_T39 l0_0 a0_1).f1))) else (none)) else (none)) else (none)) else (none)) else (none)) else (none)) else (none)) else (if ((rd_T39 l0_0 a0_1).f0) = 7 then (if 5 + ((rd_T39 l0_0 a0_1).f1).size ≤ 9223372036854775807 then (if ((⟨#[106, 111, 105, 110, 32]⟩ : ByteArray) ++ ((rd_T39 l0_0 a0_1).f1)).size + 1 ≤ 9223372036854775807 then ((spec_l24Kind.f ((rd_T39 l0_0 a0_1).f6)).bind fun t285 => (if (((⟨#[106, 111, 105, 110, 32]⟩ : ByteArray) ++ ((rd_T39 l0_0 a0_1).f1)) ++ (⟨#[32]⟩ : ByteArray)).size + t285.size ≤ 9223372036854775807 then ((spec_l24Words.f k ((rd_T39 l0_0 a0_1).f5)).bind fun t287 => (if ((((⟨#[106, 111, 105, 110, 32]⟩ : ByteArray) ++ ((rd_T39 l0_0 a0_1).f1)) ++ (⟨#[32]⟩ : ByteArray)) ++ t285).size + t287.size ≤ 9223372036854775807 then (some (((((⟨#[106, 111, 105, 110, 32]⟩ : ByteArray) ++ ((rd_T39 l0_0 a0_1).f1)) ++ (⟨#[32]⟩ : ByteArray)) ++ t285) ++ t287)) else (none))) else (none))) else (none)) else (none)) else (some (⟨#[101, 110, 100]⟩ : ByteArray)))))))
theorem spec_l24Text_at.mono : ∀ a0 a1 k, LeO (spec_l24Text_at.f k a0 a1) (spec_l24Text_at.f (k + 1) a0 a1) := by
 intro a0 a1 k
 unfold spec_l24Text_at.f
 repeat' first
   | (with_reducible exact spec_l01Dec.mono _ _)
   | (with_reducible exact spec_l24Words.mono _ _)
   | (with_reducible exact LeO.refl _)
   | (with_reducible exact LeO.none _)
   | (with_reducible refine LeO.ite ?_ ?_)
   | (with_reducible refine LeO.bind ?_ (fun _ => ?_))
   | exact spec_l01Dec.mono _ _
   | exact spec_l24Words.mono _ _
   | exact LeO.none _
   | refine LeO.ite ?_ ?_
   | refine LeO.bind ?_ (fun _ => ?_)
def spec_l24Text_at.T3 : Bool × List (List Nat × List Nat) := (true, [([], []), ([0], [0]), ([1], [1]), ([2], [2]), ([3], [3]), ([4], [4]), ([], []), ([6], [6]), ([7], [7]), ([8], [8]), ([9], [9]), ([5, 10], [5, 10]), ([11, 10, 0, 1, 2, 3, 4, 5, 6, 7, 8, 9, 10, 11], [11])])
def spec_l24Text_at.B3 : List Nat := [0, 1, 3, 7, 15, 31, 0, 64, 192, 448, 960, 2047, 4095]
theorem spec_l24Text_at.tab3 : rtab .any (opsOf Try.f34 3) = spec_l24Text_at.T3 := by kernel_rfl
theorem spec_l24Text_at.bits3 : waitsOk spec_l24Text_at.T3.2 spec_l24Text_at.B3 = true := by kernel_rfl
def spec_l24Text_at.T7 : Bool × List (List Nat × List Nat) := (true, [([], []), ([0], [0]), ([1], [1]), ([2], [2]), ([3], [3]), ([], []), ([5], [5]), ([6], [6]), ([7], [7]), ([8], [8]), ([4, 9], [4, 9]), ([10], [10])])
def spec_l24Text_at.B7 : List Nat := [0, 1, 3, 7, 15, 0, 32, 96, 224, 480, 1023, 2047]
theorem spec_l24Text_at.tab7 : rtab .any (opsOf Try.f34 7) = spec_l24Text_at.T7 := by kernel_rfl
theorem spec_l24Text_at.bits7 : waitsOk spec_l24Text_at.T7.2 spec_l24Text_at.B7 = true := by kernel_rfl
def spec_l24Text_at.T8 : Bool × List (List Nat × List Nat) := (true, [([], []), ([0], [0]), ([1], [1]), ([2], [2]), ([3], [3]), ([4], [4]), ([5], [5]), ([], []), ([7], [7]), ([8], [8]), ([9], [9]), ([10, 4], [10]), ([6, 11], [6, 11]), ([12, 11, 0, 1, 2, 3, 4, 5, 6, 7, 8, 9, 10, 11, 12], [12])])
def spec_l24Text_at.B8 : List Nat := [0, 1, 3, 7, 15, 31, 63, 0, 128, 384, 896, 1951, 4095, 8191]
theorem spec_l24Text_at.tab8 : rtab .any (opsOf Try.f34 8) = spec_l24Text_at.T8 := by kernel_rfl
theorem spec_l24Text_at.bits8 : waitsOk spec_l24Text_at.T8.2 spec_l24Text_at.B8 = true := by kernel_rfl
def spec_l24Text_at.T9 : Bool × List (List Nat × List Nat) := (true, [([], []), ([0], [0]), ([1], [1]), ([2], [2]), ([3], [3]), ([4], [4]), ([5], [5]), ([], []), ([7], [7]), ([8], [8]), ([9], [9]), ([10, 4], [10]), ([6, 11], [6, 11]), ([12], [12]), ([], []), ([14], [14]), ([15], [15]), ([16], [16]), ([17, 11], [17]), ([13, 18], [13, 18]), ([19], [19]), ([], []), ([21], [21]), ([22], [22]), ([23], [23]), ([24, 18], [24]), ([20, 25], [20, 25]), ([26, 25, 0, 1, 2, 3, 4, 5, 6, 7, 8, 9, 10, 11, 12, 13, 14, 15, 16, 17, 18, 19, 20, 21, 22, 23, 24, 25, 26], [26])])
def spec_l24Text_at.B9 : List Nat := [0, 1, 3, 7, 15, 31, 63, 0, 128, 384, 896, 1951, 4095, 8191, 0, 16384, 49152, 114688, 249759, 524287, 1048575, 0, 2097152, 6291456, 14680064, 31969183, 67108863, 134217727]
theorem spec_l24Text_at.tab9 : rtab .any (opsOf Try.f34 9) = spec_l24Text_at.T9 := by kernel_rfl
theorem spec_l24Text_at.bits9 : waitsOk spec_l24Text_at.T9.2 spec_l24Text_at.B9 = true := by kernel_rfl
def spec_l24Text_at.T11 : Bool × List (List Nat × List Nat) := (true, [([], []), ([0], [0]), ([1], [1]), ([2], [2]), ([3], [3]), ([4], [4]), ([5], [5]), ([], []), ([7], [7]), ([8], [8]), ([9], [9]), ([10, 4], [10]), ([6, 11], [6, 11]), ([12, 11, 0, 1, 2, 3, 4, 5, 6, 7, 8, 9, 10, 11, 12], [12])])
def spec_l24Text_at.B11 : List Nat := [0, 1, 3, 7, 15, 31, 63, 0, 128, 384, 896, 1951, 4095, 8191]
theorem spec_l24Text_at.tab11 : rtab .any (opsOf Try.f34 11) = spec_l24Text_at.T11 := by kernel_rfl
theorem spec_l24Text_at.bits11 : waitsOk spec_l24Text_at.T11.2 spec_l24Text_at.B11 = true := by kernel_rfl
def spec_l24Text_at.T13 : Bool × List (List Nat × List Nat) := (true, [([], []), ([0], [0]), ([1], [1]), ([2], [2]), ([3], [3]), ([4], [4]), ([5], [5]), ([6], [6]), ([], []), ([8], [8]), ([9], [9]), ([10], [10]), ([11], [11]), ([12], [12]), ([7, 13], [7, 13]), ([14], [14]), ([], []), ([16], [16]), ([17], [17]), ([18], [18]), ([15, 19], [15, 19]), ([20, 0, 1, 2, 3, 4, 5, 6, 7, 8, 9, 10, 11, 12, 13, 14, 15, 16, 17, 18, 19, 20], [20])])
def spec_l24Text_at.B13 : List Nat := [0, 1, 3, 7, 15, 31, 63, 127, 0, 256, 768, 1792, 3840, 7936, 16383, 32767, 0, 65536, 196608, 458752, 1048575, 2097151]
theorem spec_l24Text_at.tab13 : rtab .any (opsOf Try.f34 13) = spec_l24Text_at.T13 := by kernel_rfl
theorem spec_l24Text_at.bits13 : waitsOk spec_l24Text_at.T13.2 spec_l24Text_at.B13 = true := by kernel_rfl
def spec_l24Text_at.T15 : Bool × List (List Nat × List Nat) := (true, [([], []), ([0], [0]), ([1], [1]), ([2], [2]), ([3], [3]), ([4], [4]), ([], []), ([6], [6]), ([7], [7]), ([8], [8]), ([9], [9]), ([5, 10], [5, 10]), ([], []), ([12], [12]), ([13], [13]), ([14], [14]), ([15, 10], [15]), ([11, 16], [11, 16]), ([17, 16, 0, 1, 2, 3, 4, 5, 6, 7, 8, 9, 10, 11, 12, 13, 14, 15, 16, 17], [17])])
def spec_l24Text_at.B15 : List Nat := [0, 1, 3, 7, 15, 31, 0, 64, 192, 448, 960, 2047, 0, 4096, 12288, 28672, 63424, 131071, 262143]
theorem spec_l24Text_at.tab15 : rtab .any (opsOf Try.f34 15) = spec_l24Text_at.T15 := by kernel_rfl
theorem spec_l24Text_at.bits15 : waitsOk spec_l24Text_at.T15.2 spec_l24Text_at.B15 = true := by kernel_rfl
set_option maxHeartbeats 8000000 in
set_option maxRecDepth 100000 in
theorem spec_l24Text_at.calls (k : Nat) (p0_ : Addr) (l0_0 : List (S39)) (a0_1 : Int) (r : ByteArray) (w : World) (hP0_ : RPtr k39 ((a0_1 : Int).toNat * 7) w p0_ l0_0 a0_1) (h : spec_l24Text_at.f k l0_0 a0_1 = some r) :
  Calls Try.prog 34 #[.pointer (some p0_)] w fun e w' => e = .returned (.string r) ∧ Below w.heap.size w w' := by
 obtain ⟨ad0_, rfl, hr0_0, hi0_, hj0_⟩ := hP0_
 have hc0_0 : l0_0.length ≤ l0_0.length := Nat.le_refl _
 replace hi0_ := decide_eq_true hi0_
 replace hj0_ := decide_eq_true hj0_
 obtain ⟨ad9000, A9000_2, c9000_2, A9000_3, c9000_3, A9000_4, c9000_4, A9000_5, c9000_5, e9000, HX9000_0, HX9000_1, HX9000_2, HX9000_3, HX9000_4, HX9000_5, HX9000_6, HC9000_2, HR9000_2, HC9000_3, HR9000_3, HC9000_4, HR9000_4, HC9000_5, HR9000_5⟩ := at_T39 hr0_0 a0_1 (of_decide_eq_true hi0_) (of_decide_eq_true hj0_)
 obtain rfl : ad0_ = ad9000 := (by injection e9000)
 replace HX9000_0 := aM HX9000_0
 replace HX9000_1 := aM HX9000_1
 replace HX9000_2 := aM HX9000_2
 replace HX9000_3 := aM HX9000_3
 replace HX9000_4 := aM HX9000_4
 replace HX9000_5 := aM HX9000_5
 replace HX9000_6 := aM HX9000_6
 replace HC9000_2 := aM HC9000_2
 replace HR9000_2 := aM HR9000_2
 replace HC9000_3 := aM HC9000_3
 replace HR9000_3 := aM HR9000_3
 replace HC9000_4 := aM HC9000_4
 replace HR9000_4 := aM HR9000_4
 replace HC9000_5 := aM HC9000_5
 replace HR9000_5 := aM HR9000_5
 have HR0_0 := aM hr0_0
 have HC0_0 := aM hc0_0
 clear hr0_0 hc0_0
 have HB := aM (Below.refl w.heap.size w)
 have H : (if ((rd_T39 l0_0 a0_1).f0) = 1 then (if 6 + ((rd_T39 l0_0 a0_1).f1).size ≤ 9223372036854775807 then (if ((⟨#[99, 108, 97, 115, 115, 32]⟩ : ByteArray) ++ ((rd_T39 l0_0 a0_1).f1)).size + 2 ≤ 9223372036854775807 then ((spec_l24Words.f k ((rd_T39 l0_0 a0_1).f3)).bind fun t258 => (if (((⟨#[99, 108, 97, 115, 115, 32]⟩ : ByteArray) ++ ((rd_T39 l0_0 a0_1).f1)) ++ (⟨#[32, 61]⟩ : ByteArray)).size + t258.size ≤ 9223372036854775807 then (some ((((⟨#[99, 108, 97, 115, 115, 32]⟩ : ByteArray) ++ ((rd_T39 l0_0 a0_1).f1)) ++ (⟨#[32, 61]⟩ : ByteArray)) ++ t258)) else (none))) else (none)) else (none)) else (if ((rd_T39 l0_0 a0_1).f0) = 2 then (if 7 + ((rd_T39 l0_0 a0_1).f1).size ≤ 9223372036854775807 then (some ((⟨#[108, 111, 111, 107, 117, 112, 32]⟩ : ByteArray) ++ ((rd_T39 l0_0 a0_1).f1))) else (none)) else (if ((rd_T39 l0_0 a0_1).f0) = 3 then (if (wrap64 ((((rd_T39 l0_0 a0_1).f2).length : Int) + (((rd_T39 l0_0 a0_1).f4).length : Int))) = 0 then ((spec_l24Words.f k ((rd_T39 l0_0 a0_1).f3)).bind fun t263 => (if 3 + t263.size ≤ 9223372036854775807 then (if ((⟨#[115, 117, 98]⟩ : ByteArray) ++ t263).size + 3 ≤ 9223372036854775807 then ((spec_l24Words.f k ((rd_T39 l0_0 a0_1).f5)).bind fun t265 => (if (((⟨#[115, 117, 98]⟩ : ByteArray) ++ t263) ++ (⟨#[32, 98, 121]⟩ : ByteArray)).size + t265.size ≤ 9223372036854775807 then (some ((((⟨#[115, 117, 98]⟩ : ByteArray) ++ t263) ++ (⟨#[32, 98, 121]⟩ : ByteArray)) ++ t265)) else (none))) else (none)) else (none))) else ((spec_l24Words.f k ((rd_T39 l0_0 a0_1).f2)).bind fun t267 => (if 3 + t267.size ≤ 9223372036854775807 then (if ((⟨#[115, 117, 98]⟩ : ByteArray) ++ t267).size + 2 ≤ 9223372036854775807 then ((spec_l24Words.f k ((rd_T39 l0_0 a0_1).f3)).bind fun t269 => (if (((⟨#[115, 117, 98]⟩ : ByteArray) ++ t267) ++ (⟨#[32, 124]⟩ : ByteArray)).size + t269.size ≤ 9223372036854775807 then (if ((((⟨#[115, 117, 98]⟩ : ByteArray) ++ t267) ++ (⟨#[32, 124]⟩ : ByteArray)) ++ t269).size + 2 ≤ 9223372036854775807 then ((spec_l24Words.f k ((rd_T39 l0_0 a0_1).f4)).bind fun t271 => (if (((((⟨#[115, 117, 98]⟩ : ByteArray) ++ t267) ++ (⟨#[32, 124]⟩ : ByteArray)) ++ t269) ++ (⟨#[32, 124]⟩ : ByteArray)).size + t271.size ≤ 9223372036854775807 then (if ((((((⟨#[115, 117, 98]⟩ : ByteArray) ++ t267) ++ (⟨#[32, 124]⟩ : ByteArray)) ++ t269) ++ (⟨#[32, 124]⟩ : ByteArray)) ++ t271).size + 3 ≤ 9223372036854775807 then ((spec_l24Words.f k ((rd_T39 l0_0 a0_1).f5)).bind fun t273 => (if (((((((⟨#[115, 117, 98]⟩ : ByteArray) ++ t267) ++ (⟨#[32, 124]⟩ : ByteArray)) ++ t269) ++ (⟨#[32, 124]⟩ : ByteArray)) ++ t271) ++ (⟨#[32, 98, 121]⟩ : ByteArray)).size + t273.size ≤ 9223372036854775807 then (some ((((((((⟨#[115, 117, 98]⟩ : ByteArray) ++ t267) ++ (⟨#[32, 124]⟩ : ByteArray)) ++ t269) ++ (⟨#[32, 124]⟩ : ByteArray)) ++ t271) ++ (⟨#[32, 98, 121]⟩ : ByteArray)) ++ t273)) else (none))) else (none)) else (none))) else (none)) else (none))) else (none)) else (none)))) else (if ((rd_T39 l0_0 a0_1).f0) = 5 then ((spec_l24Words.f k ((rd_T39 l0_0 a0_1).f3)).bind fun t275 => (if 4 + t275.size ≤ 9223372036854775807 then (if ((⟨#[107, 101, 114, 110]⟩ : ByteArray) ++ t275).size + 1 ≤ 9223372036854775807 then ((spec_l01Dec.f k ((rd_T39 l0_0 a0_1).f6)).bind fun t277 => (if (((⟨#[107, 101, 114, 110]⟩ : ByteArray) ++ t275) ++ (⟨#[32]⟩ : ByteArray)).size + t277.size ≤ 9223372036854775807 then (some ((((⟨#[107, 101, 114, 110]⟩ : ByteArray) ++ t275) ++ (⟨#[32]⟩ : ByteArray)) ++ t277)) else (none))) else (none)) else (none))) else (if ((rd_T39 l0_0 a0_1).f0) = 6 then (if 0 < (((rd_T39 l0_0 a0_1).f3).length : Int) then (if 5 + (rdOf ByteArray.empty ((rd_T39 l0_0 a0_1).f3) 0).size ≤ 9223372036854775807 then (if ((⟨#[109, 97, 114, 107, 32]⟩ : ByteArray) ++ (rdOf ByteArray.empty ((rd_T39 l0_0 a0_1).f3) 0)).size + 4 ≤ 9223372036854775807 then (if 1 < (((rd_T39 l0_0 a0_1).f3).length : Int) then (if (((⟨#[109, 97, 114, 107, 32]⟩ : ByteArray) ++ (rdOf ByteArray.empty ((rd_T39 l0_0 a0_1).f3) 0)) ++ (⟨#[32, 111, 110, 32]⟩ : ByteArray)).size + (rdOf ByteArray.empty ((rd_T39 l0_0 a0_1).f3) 1).size ≤ 9223372036854775807 then (if ((((⟨#[109, 97, 114, 107, 32]⟩ : ByteArray) ++ (rdOf ByteArray.empty ((rd_T39 l0_0 a0_1).f3) 0)) ++ (⟨#[32, 111, 110, 32]⟩ : ByteArray)) ++ (rdOf ByteArray.empty ((rd_T39 l0_0 a0_1).f3) 1)).size + 4 ≤ 9223372036854775807 then (if (((((⟨#[109, 97, 114, 107, 32]⟩ : ByteArray) ++ (rdOf ByteArray.empty ((rd_T39 l0_0 a0_1).f3) 0)) ++ (⟨#[32, 111, 110, 32]⟩ : ByteArray)) ++ (rdOf ByteArray.empty ((rd_T39 l0_0 a0_1).f3) 1)) ++ (⟨#[32, 97, 116, 32]⟩ : ByteArray)).size + ((rd_T39 l0_0 a0_1).f1).size ≤ 9223372036854775807 then (some ((((((⟨#[109, 97, 114, 107, 32]⟩ : ByteArray) ++ (rdOf ByteArray.empty ((rd_T39 l0_0 a0_1).f3) 0)) ++ (⟨#[32, 111, 110, 32]⟩ : ByteArray)) ++ (rdOf ByteArray.empty ((rd_T39 l0_0 a0_1).f3) 1)) ++ (⟨#[32, 97, 116, 32]⟩ : ByteArray)) ++ ((rd_T39 l0_0 a0_1).f1))) else (none)) else (none)) else (none)) else (none)) else (none)) else (none)) else (none)) else (if ((rd_T39 l0_0 a0_1).f0) = 7 then (if 5 + ((rd_T39 l0_0 a0_1).f1).size ≤ 9223372036854775807 then (if ((⟨#[106, 111, 105, 110, 32]⟩ : ByteArray) ++ ((rd_T39 l0_0 a0_1).f1)).size + 1 ≤ 9223372036854775807 then ((spec_l24Kind.f ((rd_T39 l0_0 a0_1).f6)).bind fun t285 => (if (((⟨#[106, 111, 105, 110, 32]⟩ : ByteArray) ++ ((rd_T39 l0_0 a0_1).f1)) ++ (⟨#[32]⟩ : ByteArray)).size + t285.size ≤ 9223372036854775807 then ((spec_l24Words.f k ((rd_T39 l0_0 a0_1).f5)).bind fun t287 => (if ((((⟨#[106, 111, 105, 110, 32]⟩ : ByteArray) ++ ((rd_T39 l0_0 a0_1).f1)) ++ (⟨#[32]⟩ : ByteArray)) ++ t285).size + t287.size ≤ 9223372036854775807 then (some (((((⟨#[106, 111, 105, 110, 32]⟩ : ByteArray) ++ ((rd_T39 l0_0 a0_1).f1)) ++ (⟨#[32]⟩ : ByteArray)) ++ t285) ++ t287)) else (none))) else (none))) else (none)) else (none)) else (some (⟨#[101, 110, 100]⟩ : ByteArray)))))))) = some r := h
 clear h
 by_cases c2 : ((rd_T39 l0_0 a0_1).f0) = 1
 ·rw [if_pos c2] at H
  have c2b0 : (((rd_T39 l0_0 a0_1).f0) == 1) = true := beq_iff_eq.mpr c2
  have c2b1 : (((rd_T39 l0_0 a0_1).f0) != 1) = false := bne_eq_false_iff_eq.mpr c2
  clear c2
  by_cases c3 : 6 + ((rd_T39 l0_0 a0_1).f1).size ≤ 9223372036854775807
  ·rw [if_pos c3] at H
   have c3b0 := eq_true c3
   have c3b1 : decide (6 + ((rd_T39 l0_0 a0_1).f1).size ≤ 9223372036854775807) = true := decide_eq_true c3
   try have c3b2 : (9223372036854775807 < 6 + ((rd_T39 l0_0 a0_1).f1).size) = False := eq_false (Nat.not_lt.2 c3)
   by_cases c4 : ((⟨#[99, 108, 97, 115, 115, 32]⟩ : ByteArray) ++ ((rd_T39 l0_0 a0_1).f1)).size + 2 ≤ 9223372036854775807
   ·rw [if_pos c4] at H
    have c4b0 := eq_true c4
    have c4b1 : decide (((⟨#[99, 108, 97, 115, 115, 32]⟩ : ByteArray) ++ ((rd_T39 l0_0 a0_1).f1)).size + 2 ≤ 9223372036854775807) = true := decide_eq_true c4
    try have c4b2 : (9223372036854775807 < ((⟨#[99, 108, 97, 115, 115, 32]⟩ : ByteArray) ++ ((rd_T39 l0_0 a0_1).f1)).size + 2) = False := eq_false (Nat.not_lt.2 c4)
    try have c4b3 : (9223372036854775807 < 6 + ((rd_T39 l0_0 a0_1).f1).size + 2) = False := eq_false (Nat.not_lt.2 (by have h_ := c4; simp only [ByteArray.size_append] at h_; exact h_))
    try (have c4b6 := c4b0; simp only [ByteArray.size_append, ByteArray.size_extract, Nat.min_self, Int.natCast_add] at c4b6)
    try (have c4b7 := c4b1; simp only [ByteArray.size_append, ByteArray.size_extract, Nat.min_self, Int.natCast_add] at c4b7)
    replace H := Option.bind_eq_some_iff.mp H
    obtain ⟨t258, A50, H⟩ := H
    replace H : (if (((⟨#[99, 108, 97, 115, 115, 32]⟩ : ByteArray) ++ ((rd_T39 l0_0 a0_1).f1)) ++ (⟨#[32, 61]⟩ : ByteArray)).size + t258.size ≤ 9223372036854775807 then (some ((((⟨#[99, 108, 97, 115, 115, 32]⟩ : ByteArray) ++ ((rd_T39 l0_0 a0_1).f1)) ++ (⟨#[32, 61]⟩ : ByteArray)) ++ t258)) else (none)) = some r := H
    have A5 := aM A50
    clear A50
    by_cases c6 : (((⟨#[99, 108, 97, 115, 115, 32]⟩ : ByteArray) ++ ((rd_T39 l0_0 a0_1).f1)) ++ (⟨#[32, 61]⟩ : ByteArray)).size + t258.size ≤ 9223372036854775807
    ·rw [if_pos c6] at H
     have c6b0 := eq_true c6
     have c6b1 : decide ((((⟨#[99, 108, 97, 115, 115, 32]⟩ : ByteArray) ++ ((rd_T39 l0_0 a0_1).f1)) ++ (⟨#[32, 61]⟩ : ByteArray)).size + t258.size ≤ 9223372036854775807) = true := decide_eq_true c6
     try have c6b2 : (9223372036854775807 < (((⟨#[99, 108, 97, 115, 115, 32]⟩ : ByteArray) ++ ((rd_T39 l0_0 a0_1).f1)) ++ (⟨#[32, 61]⟩ : ByteArray)).size + t258.size) = False := eq_false (Nat.not_lt.2 c6)
     try have c6b3 : (9223372036854775807 < 6 + ((rd_T39 l0_0 a0_1).f1).size + 2 + t258.size) = False := eq_false (Nat.not_lt.2 (by have h_ := c6; simp only [ByteArray.size_append] at h_; exact h_))
     try (have c6b6 := c6b0; simp only [ByteArray.size_append, ByteArray.size_extract, Nat.min_self, Int.natCast_add] at c6b6)
     try (have c6b7 := c6b1; simp only [ByteArray.size_append, ByteArray.size_extract, Nat.min_self, Int.natCast_add] at c6b7)
     obtain rfl := Option.some.inj H
     have hx255_0 := HX9000_0.out
     have hx255_1 := HX9000_1.out
     have hx255_2 := HX9000_2.out
     have hx255_3 := HX9000_3.out
     have hx255_4 := HX9000_4.out
     have hx255_5 := HX9000_5.out
     have hx255_6 := HX9000_6.out
     have HR255_2 := HR9000_2
     have HC255_2 := HC9000_2
     have HR255_3 := HR9000_3
     have HC255_3 := HC9000_3
     have HR255_4 := HR9000_4
     have HC255_4 := HC9000_4
     have HR255_5 := HR9000_5
     have HC255_5 := HC9000_5
     go_enter Try.func34, Try.ntmps34
     try go_wp2
     have n0_ := aM (below_drew1 HB.out)
     clear HB
     have HB := n0_
     clear n0_
     have hx256_0 := HX9000_0.out
     have hx256_1 := HX9000_1.out
     have hx256_2 := HX9000_2.out
     have hx256_3 := HX9000_3.out
     have hx256_4 := HX9000_4.out
     have hx256_5 := HX9000_5.out
     have hx256_6 := HX9000_6.out
     have hw256_6 := hx256_6
     have hw256_5 := hx256_5
     have hw256_4 := hx256_4
     have hw256_3 := hx256_3
     have hw256_2 := hx256_2
     have hw256_1 := hx256_1
     have hw256_0 := hx256_0
     replace hx256_0 := cB HB.out hx256_0
     replace hx256_1 := cB HB.out hx256_1
     replace hx256_2 := cB HB.out hx256_2
     replace hx256_3 := cB HB.out hx256_3
     replace hx256_4 := cB HB.out hx256_4
     replace hx256_5 := cB HB.out hx256_5
     replace hx256_6 := cB HB.out hx256_6
     have HR256_2 := HR9000_2
     have HC256_2 := HC9000_2
     have HR256_3 := HR9000_3
     have HC256_3 := HC9000_3
     have HR256_4 := HR9000_4
     have HC256_4 := HC9000_4
     have HR256_5 := HR9000_5
     have HC256_5 := HC9000_5
     have hx257_0 := HX9000_0.out
     have hx257_1 := HX9000_1.out
     have hx257_2 := HX9000_2.out
     have hx257_3 := HX9000_3.out
     have hx257_4 := HX9000_4.out
     have hx257_5 := HX9000_5.out
     have hx257_6 := HX9000_6.out
     have hw257_6 := hx257_6
     have hw257_5 := hx257_5
     have hw257_4 := hx257_4
     have hw257_3 := hx257_3
     have hw257_2 := hx257_2
     have hw257_1 := hx257_1
     have hw257_0 := hx257_0
     replace hx257_0 := cB HB.out hx257_0
     replace hx257_1 := cB HB.out hx257_1
     replace hx257_2 := cB HB.out hx257_2
     replace hx257_3 := cB HB.out hx257_3
     replace hx257_4 := cB HB.out hx257_4
     replace hx257_5 := cB HB.out hx257_5
     replace hx257_6 := cB HB.out hx257_6
     have HR257_2 := HR9000_2
     have HC257_2 := HC9000_2
     have HR257_3 := HR9000_3
     have HC257_3 := HC9000_3
     have HR257_4 := HR9000_4
     have HC257_4 := HC9000_4
     have HR257_5 := HR9000_5
     have HC257_5 := HC9000_5
     refine start_ (n := 13) (S := fun w' => w'.cell? (ad0_.add ((a0_1).toNat * 7)) = some (.int .i64 ((rd_T39 l0_0 a0_1).f0)) ∧ w'.cell? ⟨(ad0_.add ((a0_1).toNat * 7)).block, (ad0_.add ((a0_1).toNat * 7)).off + 1, none⟩ = some (.string ((rd_T39 l0_0 a0_1).f1)) ∧ w'.cell? ⟨(ad0_.add ((a0_1).toNat * 7)).block, (ad0_.add ((a0_1).toNat * 7)).off + 2, none⟩ = some (.slice A9000_2 ((rd_T39 l0_0 a0_1).f2).length c9000_2) ∧ w'.cell? ⟨(ad0_.add ((a0_1).toNat * 7)).block, (ad0_.add ((a0_1).toNat * 7)).off + 3, none⟩ = some (.slice A9000_3 ((rd_T39 l0_0 a0_1).f3).length c9000_3) ∧ w'.cell? ⟨(ad0_.add ((a0_1).toNat * 7)).block, (ad0_.add ((a0_1).toNat * 7)).off + 4, none⟩ = some (.slice A9000_4 ((rd_T39 l0_0 a0_1).f4).length c9000_4) ∧ w'.cell? ⟨(ad0_.add ((a0_1).toNat * 7)).block, (ad0_.add ((a0_1).toNat * 7)).off + 5, none⟩ = some (.slice A9000_5 ((rd_T39 l0_0 a0_1).f5).length c9000_5) ∧ w'.cell? ⟨(ad0_.add ((a0_1).toNat * 7)).block, (ad0_.add ((a0_1).toNat * 7)).off + 6, none⟩ = some (.int .i64 ((rd_T39 l0_0 a0_1).f6)) ∧ w'.cell? (ad0_.add ((a0_1).toNat * 7)) = some (.int .i64 ((rd_T39 l0_0 a0_1).f0)) ∧ w'.cell? ⟨(ad0_.add ((a0_1).toNat * 7)).block, (ad0_.add ((a0_1).toNat * 7)).off + 1, none⟩ = some (.string ((rd_T39 l0_0 a0_1).f1)) ∧ w'.cell? ⟨(ad0_.add ((a0_1).toNat * 7)).block, (ad0_.add ((a0_1).toNat * 7)).off + 2, none⟩ = some (.slice A9000_2 ((rd_T39 l0_0 a0_1).f2).length c9000_2) ∧ w'.cell? ⟨(ad0_.add ((a0_1).toNat * 7)).block, (ad0_.add ((a0_1).toNat * 7)).off + 3, none⟩ = some (.slice A9000_3 ((rd_T39 l0_0 a0_1).f3).length c9000_3) ∧ w'.cell? ⟨(ad0_.add ((a0_1).toNat * 7)).block, (ad0_.add ((a0_1).toNat * 7)).off + 4, none⟩ = some (.slice A9000_4 ((rd_T39 l0_0 a0_1).f4).length c9000_4) ∧ w'.cell? ⟨(ad0_.add ((a0_1).toNat * 7)).block, (ad0_.add ((a0_1).toNat * 7)).off + 5, none⟩ = some (.slice A9000_5 ((rd_T39 l0_0 a0_1).f5).length c9000_5) ∧ w'.cell? ⟨(ad0_.add ((a0_1).toNat * 7)).block, (ad0_.add ((a0_1).toNat * 7)).off + 6, none⟩ = some (.int .i64 ((rd_T39 l0_0 a0_1).f6))) (ds := []) mkspec_l464_79 (by kernel_rfl) rfl rfl ⟨(cB HB.out hw256_0), (cB HB.out hw256_1), (cB HB.out hw256_2), (cB HB.out hw256_3), (cB HB.out hw256_4), (cB HB.out hw256_5), (cB HB.out hw256_6), (cB HB.out hw257_0), (cB HB.out hw257_1), (cB HB.out hw257_2), (cB HB.out hw257_3), (cB HB.out hw257_4), (cB HB.out hw257_5), (cB HB.out hw257_6)⟩ (fun hHeld => ?_); refine with_tabW spec_l24Text_at.tab3 spec_l24Text_at.bits3 (fun HT_ HW_ => ?_)
     generalize w.drew = w7 at HB HR256_2 HR256_3 HR256_4 HR256_5 HR257_2 HR257_3 HR257_4 HR257_5 hx256_0 hx256_1 hx256_2 hx256_3 hx256_4 hx256_5 hx256_6 hx257_0 hx257_1 hx257_2 hx257_3 hx257_4 hx257_5 hx257_6 hHeld ⊢
     refine pQ (i := 0) (N := some 9) mkspec_l464_81 ?_
     refine pQ (i := 1) (N := some 10) mkspec_l464_83 ?_
     refine pQ (i := 2) (N := some 11) mkspec_l464_85 ?_
     refine pQ (i := 6) (N := some 15) mkspec_l464_87 ?_
     refine pQ (i := 7) (N := some 16) mkspec_l464_89 ?_
     refine pQ (i := 8) (N := some 17) mkspec_l464_91 ?_
     refine tQ (i := 3) (N := some 12) mkspec_l464_93 rfl hHeld (Or.inl ⟨by rfl, by rintro w' ⟨s0, s1, s2, s3, s4, s5, s6, s7, s8, s9, s10, s11, s12, s13⟩; go_simp; with_reducible rfl⟩) ?_
     refine pQ (i := 4) (N := some 13) mkspec_l464_96 ?_
     refine pQ (i := 5) (N := some 14) mkspec_l464_98 ?_
     refine tQ (i := 9) (N := some 18) mkspec_l464_100 rfl hHeld (Or.inl ⟨by rfl, by rintro w' ⟨s0, s1, s2, s3, s4, s5, s6, s7, s8, s9, s10, s11, s12, s13⟩; go_simp; with_reducible rfl⟩) ?_
     refine one_ (i := 10) (N := some 19) mkspec_l464_102 rfl rfl (one_of HT_.out (by kernel_rfl)) (by decide) (fun K hK => ?_)
     refine goes_ Try.func56 (by kernel_rfl) rfl #[.slice A9000_3 ((rd_T39 l0_0 a0_1).f3).length c9000_3] (by rfl) rfl rfl gQ ?_
     with_reducible refine (spec_l24Words.calls k _ _ ((rd_T39 l0_0 a0_1).f3) t258 _ ?side1 ?side2 A5.out).mono ?_
     (case side1 => exact cQ HR257_3.out)
     (case side2 => exact HC257_3.out)
     rintro e w' ⟨rfl, ⟨nd, rfl⟩⟩
     refine ⟨_, rfl, ?_⟩
     refine hK.out _ _ ⟨(cB HB.out hw256_0), (cB HB.out hw256_1), (cB HB.out hw256_2), (cB HB.out hw256_3), (cB HB.out hw256_4), (cB HB.out hw256_5), (cB HB.out hw256_6), (cB HB.out hw257_0), (cB HB.out hw257_1), (cB HB.out hw257_2), (cB HB.out hw257_3), (cB HB.out hw257_4), (cB HB.out hw257_5), (cB HB.out hw257_6)⟩ (fun hHeld => ?_)
     clear hK K
     refine norm_ (a' := ?_) ?_ ?_
     rotate_left
     ·show Act.put _ (some 19) _ = _
      simp only [Act.put, sI, sZ, sS, i64_w, i32_w]
      rfl
     refine pQ (i := 11) (N := some 20) mkspec_l464_104 ?_
     refine pQ (i := 12) (N := some 2) mkspec_l464_106 ?_
     refine done_ (done_of HT_.out (by kernel_rfl)) ?_
     try go_wp2
     go_ret
     exact ⟨eQ, bQ⟩
    ·rw [if_neg c6] at H
     exact absurd H (by simp)
   ·rw [if_neg c4] at H
    exact absurd H (by simp)
  ·rw [if_neg c3] at H
   exact absurd H (by simp)
 ·rw [if_neg c2] at H
  have c2b0 : (((rd_T39 l0_0 a0_1).f0) == 1) = false := beq_eq_false_iff_ne.mpr c2
  have c2b1 : (((rd_T39 l0_0 a0_1).f0) != 1) = true := bne_iff_ne.mpr c2
  by_cases c8 : ((rd_T39 l0_0 a0_1).f0) = 2
  ·rw [if_pos c8] at H
   have c8b0 : (((rd_T39 l0_0 a0_1).f0) == 2) = true := beq_iff_eq.mpr c8
   have c8b1 : (((rd_T39 l0_0 a0_1).f0) != 2) = false := bne_eq_false_iff_eq.mpr c8
   clear c8
   by_cases c9 : 7 + ((rd_T39 l0_0 a0_1).f1).size ≤ 9223372036854775807
   ·rw [if_pos c9] at H
    have c9b0 := eq_true c9
    have c9b1 : decide (7 + ((rd_T39 l0_0 a0_1).f1).size ≤ 9223372036854775807) = true := decide_eq_true c9
    try have c9b2 : (9223372036854775807 < 7 + ((rd_T39 l0_0 a0_1).f1).size) = False := eq_false (Nat.not_lt.2 c9)
    obtain rfl := Option.some.inj H
    have hx255_0 := HX9000_0.out
    have hx255_1 := HX9000_1.out
    have hx255_2 := HX9000_2.out
    have hx255_3 := HX9000_3.out
    have hx255_4 := HX9000_4.out
    have hx255_5 := HX9000_5.out
    have hx255_6 := HX9000_6.out
    have HR255_2 := HR9000_2
    have HC255_2 := HC9000_2
    have HR255_3 := HR9000_3
    have HC255_3 := HC9000_3
    have HR255_4 := HR9000_4
    have HC255_4 := HC9000_4
    have HR255_5 := HR9000_5
    have HC255_5 := HC9000_5
    have hx259_0 := HX9000_0.out
    have hx259_1 := HX9000_1.out
    have hx259_2 := HX9000_2.out
    have hx259_3 := HX9000_3.out
    have hx259_4 := HX9000_4.out
    have hx259_5 := HX9000_5.out
    have hx259_6 := HX9000_6.out
    have HR259_2 := HR9000_2
    have HC259_2 := HC9000_2
    have HR259_3 := HR9000_3
    have HC259_3 := HC9000_3
    have HR259_4 := HR9000_4
    have HC259_4 := HC9000_4
    have HR259_5 := HR9000_5
    have HC259_5 := HC9000_5
    go_enter Try.func34, Try.ntmps34
    go_wp2
    go_ret
    exact ⟨eQ, bQ⟩
   ·rw [if_neg c9] at H
    exact absurd H (by simp)
  ·rw [if_neg c8] at H
   have c8b0 : (((rd_T39 l0_0 a0_1).f0) == 2) = false := beq_eq_false_iff_ne.mpr c8
   have c8b1 : (((rd_T39 l0_0 a0_1).f0) != 2) = true := bne_iff_ne.mpr c8
   by_cases c10 : ((rd_T39 l0_0 a0_1).f0) = 3
   ·rw [if_pos c10] at H
    have c10b0 : (((rd_T39 l0_0 a0_1).f0) == 3) = true := beq_iff_eq.mpr c10
    have c10b1 : (((rd_T39 l0_0 a0_1).f0) != 3) = false := bne_eq_false_iff_eq.mpr c10
    clear c10
    by_cases c11 : (wrap64 ((((rd_T39 l0_0 a0_1).f2).length : Int) + (((rd_T39 l0_0 a0_1).f4).length : Int))) = 0
    ·rw [if_pos c11] at H
     have c11b0 : ((wrap64 ((((rd_T39 l0_0 a0_1).f2).length : Int) + (((rd_T39 l0_0 a0_1).f4).length : Int))) == 0) = true := beq_iff_eq.mpr c11
     have c11b1 : ((wrap64 ((((rd_T39 l0_0 a0_1).f2).length : Int) + (((rd_T39 l0_0 a0_1).f4).length : Int))) != 0) = false := bne_eq_false_iff_eq.mpr c11
     clear c11
     replace H := Option.bind_eq_some_iff.mp H
     obtain ⟨t263, A120, H⟩ := H
     replace H : (if 3 + t263.size ≤ 9223372036854775807 then (if ((⟨#[115, 117, 98]⟩ : ByteArray) ++ t263).size + 3 ≤ 9223372036854775807 then ((spec_l24Words.f k ((rd_T39 l0_0 a0_1).f5)).bind fun t265 => (if (((⟨#[115, 117, 98]⟩ : ByteArray) ++ t263) ++ (⟨#[32, 98, 121]⟩ : ByteArray)).size + t265.size ≤ 9223372036854775807 then (some ((((⟨#[115, 117, 98]⟩ : ByteArray) ++ t263) ++ (⟨#[32, 98, 121]⟩ : ByteArray)) ++ t265)) else (none))) else (none)) else (none)) = some r := H
     have A12 := aM A120
     clear A120
     by_cases c13 : 3 + t263.size ≤ 9223372036854775807
     ·rw [if_pos c13] at H
      have c13b0 := eq_true c13
      have c13b1 : decide (3 + t263.size ≤ 9223372036854775807) = true := decide_eq_true c13
      try have c13b2 : (9223372036854775807 < 3 + t263.size) = False := eq_false (Nat.not_lt.2 c13)
      by_cases c14 : ((⟨#[115, 117, 98]⟩ : ByteArray) ++ t263).size + 3 ≤ 9223372036854775807
      ·rw [if_pos c14] at H
       have c14b0 := eq_true c14
       have c14b1 : decide (((⟨#[115, 117, 98]⟩ : ByteArray) ++ t263).size + 3 ≤ 9223372036854775807) = true := decide_eq_true c14
       try have c14b2 : (9223372036854775807 < ((⟨#[115, 117, 98]⟩ : ByteArray) ++ t263).size + 3) = False := eq_false (Nat.not_lt.2 c14)
       try have c14b3 : (9223372036854775807 < 3 + t263.size + 3) = False := eq_false (Nat.not_lt.2 (by have h_ := c14; simp only [ByteArray.size_append] at h_; exact h_))
       try (have c14b6 := c14b0; simp only [ByteArray.size_append, ByteArray.size_extract, Nat.min_self, Int.natCast_add] at c14b6)
       try (have c14b7 := c14b1; simp only [ByteArray.size_append, ByteArray.size_extract, Nat.min_self, Int.natCast_add] at c14b7)
       replace H := Option.bind_eq_some_iff.mp H
       obtain ⟨t265, A150, H⟩ := H
       replace H : (if (((⟨#[115, 117, 98]⟩ : ByteArray) ++ t263) ++ (⟨#[32, 98, 121]⟩ : ByteArray)).size + t265.size ≤ 9223372036854775807 then (some ((((⟨#[115, 117, 98]⟩ : ByteArray) ++ t263) ++ (⟨#[32, 98, 121]⟩ : ByteArray)) ++ t265)) else (none)) = some r := H
       have A15 := aM A150
       clear A150
       by_cases c16 : (((⟨#[115, 117, 98]⟩ : ByteArray) ++ t263) ++ (⟨#[32, 98, 121]⟩ : ByteArray)).size + t265.size ≤ 9223372036854775807
       ·rw [if_pos c16] at H
        have c16b0 := eq_true c16
        have c16b1 : decide ((((⟨#[115, 117, 98]⟩ : ByteArray) ++ t263) ++ (⟨#[32, 98, 121]⟩ : ByteArray)).size + t265.size ≤ 9223372036854775807) = true := decide_eq_true c16
        try have c16b2 : (9223372036854775807 < (((⟨#[115, 117, 98]⟩ : ByteArray) ++ t263) ++ (⟨#[32, 98, 121]⟩ : ByteArray)).size + t265.size) = False := eq_false (Nat.not_lt.2 c16)
        try have c16b3 : (9223372036854775807 < 3 + t263.size + 3 + t265.size) = False := eq_false (Nat.not_lt.2 (by have h_ := c16; simp only [ByteArray.size_append] at h_; exact h_))
        try (have c16b6 := c16b0; simp only [ByteArray.size_append, ByteArray.size_extract, Nat.min_self, Int.natCast_add] at c16b6)
        try (have c16b7 := c16b1; simp only [ByteArray.size_append, ByteArray.size_extract, Nat.min_self, Int.natCast_add] at c16b7)
        obtain rfl := Option.some.inj H
        have hx255_0 := HX9000_0.out
        have hx255_1 := HX9000_1.out
        have hx255_2 := HX9000_2.out
        have hx255_3 := HX9000_3.out
        have hx255_4 := HX9000_4.out
        have hx255_5 := HX9000_5.out
        have hx255_6 := HX9000_6.out
        have HR255_2 := HR9000_2
        have HC255_2 := HC9000_2
        have HR255_3 := HR9000_3
        have HC255_3 := HC9000_3
        have HR255_4 := HR9000_4
        have HC255_4 := HC9000_4
        have HR255_5 := HR9000_5
        have HC255_5 := HC9000_5
        go_enter Try.func34, Try.ntmps34
        try go_wp2
        have n0_ := aM (below_drew1 HB.out)
        clear HB
        have HB := n0_
        clear n0_
        have hx260_0 := HX9000_0.out
        have hx260_1 := HX9000_1.out
        have hx260_2 := HX9000_2.out
        have hx260_3 := HX9000_3.out
        have hx260_4 := HX9000_4.out
        have hx260_5 := HX9000_5.out
        have hx260_6 := HX9000_6.out
        have hw260_6 := hx260_6
        have hw260_5 := hx260_5
        have hw260_4 := hx260_4
        have hw260_3 := hx260_3
        have hw260_2 := hx260_2
        have hw260_1 := hx260_1
        have hw260_0 := hx260_0
        replace hx260_0 := cB HB.out hx260_0
        replace hx260_1 := cB HB.out hx260_1
        replace hx260_2 := cB HB.out hx260_2
        replace hx260_3 := cB HB.out hx260_3
        replace hx260_4 := cB HB.out hx260_4
        replace hx260_5 := cB HB.out hx260_5
        replace hx260_6 := cB HB.out hx260_6
        have HR260_2 := HR9000_2
        have HC260_2 := HC9000_2
        have HR260_3 := HR9000_3
        have HC260_3 := HC9000_3
        have HR260_4 := HR9000_4
        have HC260_4 := HC9000_4
        have HR260_5 := HR9000_5
        have HC260_5 := HC9000_5
        have hx261_0 := HX9000_0.out
        have hx261_1 := HX9000_1.out
        have hx261_2 := HX9000_2.out
        have hx261_3 := HX9000_3.out
        have hx261_4 := HX9000_4.out
        have hx261_5 := HX9000_5.out
        have hx261_6 := HX9000_6.out
        have hw261_6 := hx261_6
        have hw261_5 := hx261_5
        have hw261_4 := hx261_4
        have hw261_3 := hx261_3
        have hw261_2 := hx261_2
        have hw261_1 := hx261_1
        have hw261_0 := hx261_0
        replace hx261_0 := cB HB.out hx261_0
        replace hx261_1 := cB HB.out hx261_1
        replace hx261_2 := cB HB.out hx261_2
        replace hx261_3 := cB HB.out hx261_3
        replace hx261_4 := cB HB.out hx261_4
        replace hx261_5 := cB HB.out hx261_5
        replace hx261_6 := cB HB.out hx261_6
        have HR261_2 := HR9000_2
        have HC261_2 := HC9000_2
        have HR261_3 := HR9000_3
        have HC261_3 := HC9000_3
        have HR261_4 := HR9000_4
        have HC261_4 := HC9000_4
        have HR261_5 := HR9000_5
        have HC261_5 := HC9000_5
        refine start_ (n := 12) (S := fun w' => w'.cell? (ad0_.add ((a0_1).toNat * 7)) = some (.int .i64 ((rd_T39 l0_0 a0_1).f0)) ∧ w'.cell? ⟨(ad0_.add ((a0_1).toNat * 7)).block, (ad0_.add ((a0_1).toNat * 7)).off + 1, none⟩ = some (.string ((rd_T39 l0_0 a0_1).f1)) ∧ w'.cell? ⟨(ad0_.add ((a0_1).toNat * 7)).block, (ad0_.add ((a0_1).toNat * 7)).off + 2, none⟩ = some (.slice A9000_2 ((rd_T39 l0_0 a0_1).f2).length c9000_2) ∧ w'.cell? ⟨(ad0_.add ((a0_1).toNat * 7)).block, (ad0_.add ((a0_1).toNat * 7)).off + 3, none⟩ = some (.slice A9000_3 ((rd_T39 l0_0 a0_1).f3).length c9000_3) ∧ w'.cell? ⟨(ad0_.add ((a0_1).toNat * 7)).block, (ad0_.add ((a0_1).toNat * 7)).off + 4, none⟩ = some (.slice A9000_4 ((rd_T39 l0_0 a0_1).f4).length c9000_4) ∧ w'.cell? ⟨(ad0_.add ((a0_1).toNat * 7)).block, (ad0_.add ((a0_1).toNat * 7)).off + 5, none⟩ = some (.slice A9000_5 ((rd_T39 l0_0 a0_1).f5).length c9000_5) ∧ w'.cell? ⟨(ad0_.add ((a0_1).toNat * 7)).block, (ad0_.add ((a0_1).toNat * 7)).off + 6, none⟩ = some (.int .i64 ((rd_T39 l0_0 a0_1).f6)) ∧ w'.cell? (ad0_.add ((a0_1).toNat * 7)) = some (.int .i64 ((rd_T39 l0_0 a0_1).f0)) ∧ w'.cell? ⟨(ad0_.add ((a0_1).toNat * 7)).block, (ad0_.add ((a0_1).toNat * 7)).off + 1, none⟩ = some (.string ((rd_T39 l0_0 a0_1).f1)) ∧ w'.cell? ⟨(ad0_.add ((a0_1).toNat * 7)).block, (ad0_.add ((a0_1).toNat * 7)).off + 2, none⟩ = some (.slice A9000_2 ((rd_T39 l0_0 a0_1).f2).length c9000_2) ∧ w'.cell? ⟨(ad0_.add ((a0_1).toNat * 7)).block, (ad0_.add ((a0_1).toNat * 7)).off + 3, none⟩ = some (.slice A9000_3 ((rd_T39 l0_0 a0_1).f3).length c9000_3) ∧ w'.cell? ⟨(ad0_.add ((a0_1).toNat * 7)).block, (ad0_.add ((a0_1).toNat * 7)).off + 4, none⟩ = some (.slice A9000_4 ((rd_T39 l0_0 a0_1).f4).length c9000_4) ∧ w'.cell? ⟨(ad0_.add ((a0_1).toNat * 7)).block, (ad0_.add ((a0_1).toNat * 7)).off + 5, none⟩ = some (.slice A9000_5 ((rd_T39 l0_0 a0_1).f5).length c9000_5) ∧ w'.cell? ⟨(ad0_.add ((a0_1).toNat * 7)).block, (ad0_.add ((a0_1).toNat * 7)).off + 6, none⟩ = some (.int .i64 ((rd_T39 l0_0 a0_1).f6))) (ds := []) mkspec_l464_94 (by kernel_rfl) rfl rfl ⟨(cB HB.out hw260_0), (cB HB.out hw260_1), (cB HB.out hw260_2), (cB HB.out hw260_3), (cB HB.out hw260_4), (cB HB.out hw260_5), (cB HB.out hw260_6), (cB HB.out hw261_0), (cB HB.out hw261_1), (cB HB.out hw261_2), (cB HB.out hw261_3), (cB HB.out hw261_4), (cB HB.out hw261_5), (cB HB.out hw261_6)⟩ (fun hHeld => ?_); refine with_tabW spec_l24Text_at.tab7 spec_l24Text_at.bits7 (fun HT_ HW_ => ?_)
        generalize w.drew = w17 at HB HR260_2 HR260_3 HR260_4 HR260_5 HR261_2 HR261_3 HR261_4 HR261_5 hx260_0 hx260_1 hx260_2 hx260_3 hx260_4 hx260_5 hx260_6 hx261_0 hx261_1 hx261_2 hx261_3 hx261_4 hx261_5 hx261_6 hHeld ⊢
        refine pQ (i := 0) (N := some 30) mkspec_l464_97 ?_
        refine pQ (i := 1) (N := some 31) mkspec_l464_99 ?_
        refine pQ (i := 2) (N := some 32) mkspec_l464_101 ?_
        refine pQ (i := 5) (N := some 35) mkspec_l464_103 ?_
        refine pQ (i := 6) (N := some 36) mkspec_l464_105 ?_
        refine pQ (i := 7) (N := some 37) mkspec_l464_107 ?_
        refine tQ (i := 3) (N := some 33) mkspec_l464_108 rfl hHeld (Or.inl ⟨by rfl, by rintro w' ⟨s0, s1, s2, s3, s4, s5, s6, s7, s8, s9, s10, s11, s12, s13⟩; go_simp; with_reducible rfl⟩) ?_
        refine pQ (i := 4) (N := some 34) mkspec_l464_109 ?_
        refine tQ (i := 8) (N := some 38) mkspec_l464_110 rfl hHeld (Or.inl ⟨by rfl, by rintro w' ⟨s0, s1, s2, s3, s4, s5, s6, s7, s8, s9, s10, s11, s12, s13⟩; go_simp; with_reducible rfl⟩) ?_
        refine pQ (i := 9) (N := some 39) mkspec_l464_111 ?_
        refine pQ (i := 10) (N := some 40) mkspec_l464_112 ?_
        refine pQ (i := 11) (N := some 41) mkspec_l464_113 ?_
        refine done_ (done_of HT_.out (by kernel_rfl)) ?_
        try go_wp2
        have n0_ := aM (below_drew1 HB.out)
        clear HB
        have HB := n0_
        clear n0_
        have hx262_0 := HX9000_0.out
        have hx262_1 := HX9000_1.out
        have hx262_2 := HX9000_2.out
        have hx262_3 := HX9000_3.out
        have hx262_4 := HX9000_4.out
        have hx262_5 := HX9000_5.out
        have hx262_6 := HX9000_6.out
        have hw262_6 := hx262_6
        have hw262_5 := hx262_5
        have hw262_4 := hx262_4
        have hw262_3 := hx262_3
        have hw262_2 := hx262_2
        have hw262_1 := hx262_1
        have hw262_0 := hx262_0
        replace hx262_0 := cB HB.out hx262_0
        replace hx262_1 := cB HB.out hx262_1
        replace hx262_2 := cB HB.out hx262_2
        replace hx262_3 := cB HB.out hx262_3
        replace hx262_4 := cB HB.out hx262_4
        replace hx262_5 := cB HB.out hx262_5
        replace hx262_6 := cB HB.out hx262_6
        have HR262_2 := HR9000_2
        have HC262_2 := HC9000_2
        have HR262_3 := HR9000_3
        have HC262_3 := HC9000_3
        have HR262_4 := HR9000_4
        have HC262_4 := HC9000_4
        have HR262_5 := HR9000_5
        have HC262_5 := HC9000_5
        have hx264_0 := HX9000_0.out
        have hx264_1 := HX9000_1.out
        have hx264_2 := HX9000_2.out
        have hx264_3 := HX9000_3.out
        have hx264_4 := HX9000_4.out
        have hx264_5 := HX9000_5.out
        have hx264_6 := HX9000_6.out
        have hw264_6 := hx264_6
        have hw264_5 := hx264_5
        have hw264_4 := hx264_4
        have hw264_3 := hx264_3
        have hw264_2 := hx264_2
        have hw264_1 := hx264_1
        have hw264_0 := hx264_0
        replace hx264_0 := cB HB.out hx264_0
        replace hx264_1 := cB HB.out hx264_1
        replace hx264_2 := cB HB.out hx264_2
        replace hx264_3 := cB HB.out hx264_3
        replace hx264_4 := cB HB.out hx264_4
        replace hx264_5 := cB HB.out hx264_5
        replace hx264_6 := cB HB.out hx264_6
        have HR264_2 := HR9000_2
        have HC264_2 := HC9000_2
        have HR264_3 := HR9000_3
        have HC264_3 := HC9000_3
        have HR264_4 := HR9000_4
        have HC264_4 := HC9000_4
        have HR264_5 := HR9000_5
        have HC264_5 := HC9000_5
        refine start_ (n := 14) (S := fun w' => w'.cell? (ad0_.add ((a0_1).toNat * 7)) = some (.int .i64 ((rd_T39 l0_0 a0_1).f0)) ∧ w'.cell? ⟨(ad0_.add ((a0_1).toNat * 7)).block, (ad0_.add ((a0_1).toNat * 7)).off + 1, none⟩ = some (.string ((rd_T39 l0_0 a0_1).f1)) ∧ w'.cell? ⟨(ad0_.add ((a0_1).toNat * 7)).block, (ad0_.add ((a0_1).toNat * 7)).off + 2, none⟩ = some (.slice A9000_2 ((rd_T39 l0_0 a0_1).f2).length c9000_2) ∧ w'.cell? ⟨(ad0_.add ((a0_1).toNat * 7)).block, (ad0_.add ((a0_1).toNat * 7)).off + 3, none⟩ = some (.slice A9000_3 ((rd_T39 l0_0 a0_1).f3).length c9000_3) ∧ w'.cell? ⟨(ad0_.add ((a0_1).toNat * 7)).block, (ad0_.add ((a0_1).toNat * 7)).off + 4, none⟩ = some (.slice A9000_4 ((rd_T39 l0_0 a0_1).f4).length c9000_4) ∧ w'.cell? ⟨(ad0_.add ((a0_1).toNat * 7)).block, (ad0_.add ((a0_1).toNat * 7)).off + 5, none⟩ = some (.slice A9000_5 ((rd_T39 l0_0 a0_1).f5).length c9000_5) ∧ w'.cell? ⟨(ad0_.add ((a0_1).toNat * 7)).block, (ad0_.add ((a0_1).toNat * 7)).off + 6, none⟩ = some (.int .i64 ((rd_T39 l0_0 a0_1).f6)) ∧ w'.cell? (ad0_.add ((a0_1).toNat * 7)) = some (.int .i64 ((rd_T39 l0_0 a0_1).f0)) ∧ w'.cell? ⟨(ad0_.add ((a0_1).toNat * 7)).block, (ad0_.add ((a0_1).toNat * 7)).off + 1, none⟩ = some (.string ((rd_T39 l0_0 a0_1).f1)) ∧ w'.cell? ⟨(ad0_.add ((a0_1).toNat * 7)).block, (ad0_.add ((a0_1).toNat * 7)).off + 2, none⟩ = some (.slice A9000_2 ((rd_T39 l0_0 a0_1).f2).length c9000_2) ∧ w'.cell? ⟨(ad0_.add ((a0_1).toNat * 7)).block, (ad0_.add ((a0_1).toNat * 7)).off + 3, none⟩ = some (.slice A9000_3 ((rd_T39 l0_0 a0_1).f3).length c9000_3) ∧ w'.cell? ⟨(ad0_.add ((a0_1).toNat * 7)).block, (ad0_.add ((a0_1).toNat * 7)).off + 4, none⟩ = some (.slice A9000_4 ((rd_T39 l0_0 a0_1).f4).length c9000_4) ∧ w'.cell? ⟨(ad0_.add ((a0_1).toNat * 7)).block, (ad0_.add ((a0_1).toNat * 7)).off + 5, none⟩ = some (.slice A9000_5 ((rd_T39 l0_0 a0_1).f5).length c9000_5) ∧ w'.cell? ⟨(ad0_.add ((a0_1).toNat * 7)).block, (ad0_.add ((a0_1).toNat * 7)).off + 6, none⟩ = some (.int .i64 ((rd_T39 l0_0 a0_1).f6))) (ds := []) mkspec_l464_72 (by kernel_rfl) rfl rfl ⟨(cB HB.out hw262_0), (cB HB.out hw262_1), (cB HB.out hw262_2), (cB HB.out hw262_3), (cB HB.out hw262_4), (cB HB.out hw262_5), (cB HB.out hw262_6), (cB HB.out hw264_0), (cB HB.out hw264_1), (cB HB.out hw264_2), (cB HB.out hw264_3), (cB HB.out hw264_4), (cB HB.out hw264_5), (cB HB.out hw264_6)⟩ (fun hHeld => ?_); refine with_tabW spec_l24Text_at.tab8 spec_l24Text_at.bits8 (fun HT_ HW_ => ?_)
        generalize w17.drew = w18 at HB HR262_2 HR262_3 HR262_4 HR262_5 HR264_2 HR264_3 HR264_4 HR264_5 hx262_0 hx262_1 hx262_2 hx262_3 hx262_4 hx262_5 hx262_6 hx264_0 hx264_1 hx264_2 hx264_3 hx264_4 hx264_5 hx264_6 hHeld ⊢
        refine pQ (i := 0) (N := some 42) mkspec_l464_73 ?_
        refine pQ (i := 1) (N := some 43) mkspec_l464_74 ?_
        refine pQ (i := 2) (N := some 44) mkspec_l464_75 ?_
        refine pQ (i := 7) (N := some 49) mkspec_l464_76 ?_
        refine pQ (i := 8) (N := some 50) mkspec_l464_77 ?_
        refine pQ (i := 9) (N := some 51) mkspec_l464_78 ?_
        refine tQ (i := 3) (N := some 45) mkspec_l464_80 rfl hHeld (Or.inl ⟨by rfl, by rintro w' ⟨s0, s1, s2, s3, s4, s5, s6, s7, s8, s9, s10, s11, s12, s13⟩; go_simp; with_reducible rfl⟩) ?_
        refine tQ (i := 10) (N := some 52) mkspec_l464_82 rfl hHeld (Or.inl ⟨by rfl, by rintro w' ⟨s0, s1, s2, s3, s4, s5, s6, s7, s8, s9, s10, s11, s12, s13⟩; go_simp; with_reducible rfl⟩) ?_
        refine one_ (i := 4) (N := some 46) mkspec_l464_84 rfl rfl (one_of HT_.out (by kernel_rfl)) (by decide) (fun K hK => ?_)
        refine goes_ Try.func56 (by kernel_rfl) rfl #[.slice A9000_3 ((rd_T39 l0_0 a0_1).f3).length c9000_3] (by rfl) rfl rfl gQ ?_
        with_reducible refine (spec_l24Words.calls k _ _ ((rd_T39 l0_0 a0_1).f3) t263 _ ?side1 ?side2 A12.out).mono ?_
        (case side1 => exact cQ HR262_3.out)
        (case side2 => exact HC262_3.out)
        rintro e w' ⟨rfl, ⟨nd, rfl⟩⟩
        refine ⟨_, rfl, ?_⟩
        refine hK.out _ _ ⟨(cB HB.out hw262_0), (cB HB.out hw262_1), (cB HB.out hw262_2), (cB HB.out hw262_3), (cB HB.out hw262_4), (cB HB.out hw262_5), (cB HB.out hw262_6), (cB HB.out hw264_0), (cB HB.out hw264_1), (cB HB.out hw264_2), (cB HB.out hw264_3), (cB HB.out hw264_4), (cB HB.out hw264_5), (cB HB.out hw264_6)⟩ (fun hHeld => ?_)
        clear hK K
        refine norm_ (a' := ?_) ?_ ?_
        rotate_left
        ·show Act.put _ (some 46) _ = _
         simp only [Act.put, sI, sZ, sS, i64_w, i32_w]
         rfl
        refine pQ (i := 5) (N := some 47) mkspec_l464_86 ?_
        refine pQ (i := 6) (N := some 48) mkspec_l464_88 ?_
        refine one_ (i := 11) (N := some 53) mkspec_l464_90 rfl rfl (one_of HT_.out (by kernel_rfl)) (by decide) (fun K hK => ?_)
        refine goes_ Try.func56 (by kernel_rfl) rfl #[.slice A9000_5 ((rd_T39 l0_0 a0_1).f5).length c9000_5] (by rfl) rfl rfl gQ ?_
        with_reducible refine (spec_l24Words.calls k _ _ ((rd_T39 l0_0 a0_1).f5) t265 _ ?side1 ?side2 A15.out).mono ?_
        (case side1 => exact cQ HR264_5.out)
        (case side2 => exact HC264_5.out)
        rintro e w' ⟨rfl, ⟨nd, rfl⟩⟩
        refine ⟨_, rfl, ?_⟩
        refine hK.out _ _ ⟨(cB HB.out hw262_0), (cB HB.out hw262_1), (cB HB.out hw262_2), (cB HB.out hw262_3), (cB HB.out hw262_4), (cB HB.out hw262_5), (cB HB.out hw262_6), (cB HB.out hw264_0), (cB HB.out hw264_1), (cB HB.out hw264_2), (cB HB.out hw264_3), (cB HB.out hw264_4), (cB HB.out hw264_5), (cB HB.out hw264_6)⟩ (fun hHeld => ?_)
        clear hK K
        refine norm_ (a' := ?_) ?_ ?_
        rotate_left
        ·show Act.put _ (some 53) _ = _
         simp only [Act.put, sI, sZ, sS, i64_w, i32_w]
         rfl
        refine pQ (i := 12) (N := some 54) mkspec_l464_92 ?_
        refine pQ (i := 13) (N := some 2) mkspec_l464_95 ?_
        refine done_ (done_of HT_.out (by kernel_rfl)) ?_
        try go_wp2
        go_ret
        exact ⟨eQ, bQ⟩
       ·rw [if_neg c16] at H
        exact absurd H (by simp)
      ·rw [if_neg c14] at H
       exact absurd H (by simp)
     ·rw [if_neg c13] at H
      exact absurd H (by simp)
    ·rw [if_neg c11] at H
     have c11b0 : ((wrap64 ((((rd_T39 l0_0 a0_1).f2).length : Int) + (((rd_T39 l0_0 a0_1).f4).length : Int))) == 0) = false := beq_eq_false_iff_ne.mpr c11
     have c11b1 : ((wrap64 ((((rd_T39 l0_0 a0_1).f2).length : Int) + (((rd_T39 l0_0 a0_1).f4).length : Int))) != 0) = true := bne_iff_ne.mpr c11
     replace H := Option.bind_eq_some_iff.mp H
     obtain ⟨t267, A190, H⟩ := H
     replace H : (if 3 + t267.size ≤ 9223372036854775807 then (if ((⟨#[115, 117, 98]⟩ : ByteArray) ++ t267).size + 2 ≤ 9223372036854775807 then ((spec_l24Words.f k ((rd_T39 l0_0 a0_1).f3)).bind fun t269 => (if (((⟨#[115, 117, 98]⟩ : ByteArray) ++ t267) ++ (⟨#[32, 124]⟩ : ByteArray)).size + t269.size ≤ 9223372036854775807 then (if ((((⟨#[115, 117, 98]⟩ : ByteArray) ++ t267) ++ (⟨#[32, 124]⟩ : ByteArray)) ++ t269).size + 2 ≤ 9223372036854775807 then ((spec_l24Words.f k ((rd_T39 l0_0 a0_1).f4)).bind fun t271 => (if (((((⟨#[115, 117, 98]⟩ : ByteArray) ++ t267) ++ (⟨#[32, 124]⟩ : ByteArray)) ++ t269) ++ (⟨#[32, 124]⟩ : ByteArray)).size + t271.size ≤ 9223372036854775807 then (if ((((((⟨#[115, 117, 98]⟩ : ByteArray) ++ t267) ++ (⟨#[32, 124]⟩ : ByteArray)) ++ t269) ++ (⟨#[32, 124]⟩ : ByteArray)) ++ t271).size + 3 ≤ 9223372036854775807 then ((spec_l24Words.f k ((rd_T39 l0_0 a0_1).f5)).bind fun t273 => (if (((((((⟨#[115, 117, 98]⟩ : ByteArray) ++ t267) ++ (⟨#[32, 124]⟩ : ByteArray)) ++ t269) ++ (⟨#[32, 124]⟩ : ByteArray)) ++ t271) ++ (⟨#[32, 98, 121]⟩ : ByteArray)).size + t273.size ≤ 9223372036854775807 then (some ((((((((⟨#[115, 117, 98]⟩ : ByteArray) ++ t267) ++ (⟨#[32, 124]⟩ : ByteArray)) ++ t269) ++ (⟨#[32, 124]⟩ : ByteArray)) ++ t271) ++ (⟨#[32, 98, 121]⟩ : ByteArray)) ++ t273)) else (none))) else (none)) else (none))) else (none)) else (none))) else (none)) else (none)) = some r := H
     have A19 := aM A190
     clear A190
     by_cases c20 : 3 + t267.size ≤ 9223372036854775807
     ·rw [if_pos c20] at H
      have c20b0 := eq_true c20
      have c20b1 : decide (3 + t267.size ≤ 9223372036854775807) = true := decide_eq_true c20
      try have c20b2 : (9223372036854775807 < 3 + t267.size) = False := eq_false (Nat.not_lt.2 c20)
      by_cases c21 : ((⟨#[115, 117, 98]⟩ : ByteArray) ++ t267).size + 2 ≤ 9223372036854775807
      ·rw [if_pos c21] at H
       have c21b0 := eq_true c21
       have c21b1 : decide (((⟨#[115, 117, 98]⟩ : ByteArray) ++ t267).size + 2 ≤ 9223372036854775807) = true := decide_eq_true c21
       try have c21b2 : (9223372036854775807 < ((⟨#[115, 117, 98]⟩ : ByteArray) ++ t267).size + 2) = False := eq_false (Nat.not_lt.2 c21)
       try have c21b3 : (9223372036854775807 < 3 + t267.size + 2) = False := eq_false (Nat.not_lt.2 (by have h_ := c21; simp only [ByteArray.size_append] at h_; exact h_))
       try (have c21b6 := c21b0; simp only [ByteArray.size_append, ByteArray.size_extract, Nat.min_self, Int.natCast_add] at c21b6)
       try (have c21b7 := c21b1; simp only [ByteArray.size_append, ByteArray.size_extract, Nat.min_self, Int.natCast_add] at c21b7)
       replace H := Option.bind_eq_some_iff.mp H
       obtain ⟨t269, A220, H⟩ := H
       replace H : (if (((⟨#[115, 117, 98]⟩ : ByteArray) ++ t267) ++ (⟨#[32, 124]⟩ : ByteArray)).size + t269.size ≤ 9223372036854775807 then (if ((((⟨#[115, 117, 98]⟩ : ByteArray) ++ t267) ++ (⟨#[32, 124]⟩ : ByteArray)) ++ t269).size + 2 ≤ 9223372036854775807 then ((spec_l24Words.f k ((rd_T39 l0_0 a0_1).f4)).bind fun t271 => (if (((((⟨#[115, 117, 98]⟩ : ByteArray) ++ t267) ++ (⟨#[32, 124]⟩ : ByteArray)) ++ t269) ++ (⟨#[32, 124]⟩ : ByteArray)).size + t271.size ≤ 9223372036854775807 then (if ((((((⟨#[115, 117, 98]⟩ : ByteArray) ++ t267) ++ (⟨#[32, 124]⟩ : ByteArray)) ++ t269) ++ (⟨#[32, 124]⟩ : ByteArray)) ++ t271).size + 3 ≤ 9223372036854775807 then ((spec_l24Words.f k ((rd_T39 l0_0 a0_1).f5)).bind fun t273 => (if (((((((⟨#[115, 117, 98]⟩ : ByteArray) ++ t267) ++ (⟨#[32, 124]⟩ : ByteArray)) ++ t269) ++ (⟨#[32, 124]⟩ : ByteArray)) ++ t271) ++ (⟨#[32, 98, 121]⟩ : ByteArray)).size + t273.size ≤ 9223372036854775807 then (some ((((((((⟨#[115, 117, 98]⟩ : ByteArray) ++ t267) ++ (⟨#[32, 124]⟩ : ByteArray)) ++ t269) ++ (⟨#[32, 124]⟩ : ByteArray)) ++ t271) ++ (⟨#[32, 98, 121]⟩ : ByteArray)) ++ t273)) else (none))) else (none)) else (none))) else (none)) else (none)) = some r := H
       have A22 := aM A220
       clear A220
       by_cases c23 : (((⟨#[115, 117, 98]⟩ : ByteArray) ++ t267) ++ (⟨#[32, 124]⟩ : ByteArray)).size + t269.size ≤ 9223372036854775807
       ·rw [if_pos c23] at H
        have c23b0 := eq_true c23
        have c23b1 : decide ((((⟨#[115, 117, 98]⟩ : ByteArray) ++ t267) ++ (⟨#[32, 124]⟩ : ByteArray)).size + t269.size ≤ 9223372036854775807) = true := decide_eq_true c23
        try have c23b2 : (9223372036854775807 < (((⟨#[115, 117, 98]⟩ : ByteArray) ++ t267) ++ (⟨#[32, 124]⟩ : ByteArray)).size + t269.size) = False := eq_false (Nat.not_lt.2 c23)
        try have c23b3 : (9223372036854775807 < 3 + t267.size + 2 + t269.size) = False := eq_false (Nat.not_lt.2 (by have h_ := c23; simp only [ByteArray.size_append] at h_; exact h_))
        try (have c23b6 := c23b0; simp only [ByteArray.size_append, ByteArray.size_extract, Nat.min_self, Int.natCast_add] at c23b6)
        try (have c23b7 := c23b1; simp only [ByteArray.size_append, ByteArray.size_extract, Nat.min_self, Int.natCast_add] at c23b7)
        by_cases c24 : ((((⟨#[115, 117, 98]⟩ : ByteArray) ++ t267) ++ (⟨#[32, 124]⟩ : ByteArray)) ++ t269).size + 2 ≤ 9223372036854775807
        ·rw [if_pos c24] at H
         have c24b0 := eq_true c24
         have c24b1 : decide (((((⟨#[115, 117, 98]⟩ : ByteArray) ++ t267) ++ (⟨#[32, 124]⟩ : ByteArray)) ++ t269).size + 2 ≤ 9223372036854775807) = true := decide_eq_true c24
         try have c24b2 : (9223372036854775807 < ((((⟨#[115, 117, 98]⟩ : ByteArray) ++ t267) ++ (⟨#[32, 124]⟩ : ByteArray)) ++ t269).size + 2) = False := eq_false (Nat.not_lt.2 c24)
         try have c24b3 : (9223372036854775807 < 3 + t267.size + 2 + t269.size + 2) = False := eq_false (Nat.not_lt.2 (by have h_ := c24; simp only [ByteArray.size_append] at h_; exact h_))
         try (have c24b6 := c24b0; simp only [ByteArray.size_append, ByteArray.size_extract, Nat.min_self, Int.natCast_add] at c24b6)
         try (have c24b7 := c24b1; simp only [ByteArray.size_append, ByteArray.size_extract, Nat.min_self, Int.natCast_add] at c24b7)
         replace H := Option.bind_eq_some_iff.mp H
         obtain ⟨t271, A250, H⟩ := H
         replace H : (if (((((⟨#[115, 117, 98]⟩ : ByteArray) ++ t267) ++ (⟨#[32, 124]⟩ : ByteArray)) ++ t269) ++ (⟨#[32, 124]⟩ : ByteArray)).size + t271.size ≤ 9223372036854775807 then (if ((((((⟨#[115, 117, 98]⟩ : ByteArray) ++ t267) ++ (⟨#[32, 124]⟩ : ByteArray)) ++ t269) ++ (⟨#[32, 124]⟩ : ByteArray)) ++ t271).size + 3 ≤ 9223372036854775807 then ((spec_l24Words.f k ((rd_T39 l0_0 a0_1).f5)).bind fun t273 => (if (((((((⟨#[115, 117, 98]⟩ : ByteArray) ++ t267) ++ (⟨#[32, 124]⟩ : ByteArray)) ++ t269) ++ (⟨#[32, 124]⟩ : ByteArray)) ++ t271) ++ (⟨#[32, 98, 121]⟩ : ByteArray)).size + t273.size ≤ 9223372036854775807 then (some ((((((((⟨#[115, 117, 98]⟩ : ByteArray) ++ t267) ++ (⟨#[32, 124]⟩ : ByteArray)) ++ t269) ++ (⟨#[32, 124]⟩ : ByteArray)) ++ t271) ++ (⟨#[32, 98, 121]⟩ : ByteArray)) ++ t273)) else (none))) else (none)) else (none)) = some r := H
         have A25 := aM A250
         clear A250
         by_cases c26 : (((((⟨#[115, 117, 98]⟩ : ByteArray) ++ t267) ++ (⟨#[32, 124]⟩ : ByteArray)) ++ t269) ++ (⟨#[32, 124]⟩ : ByteArray)).size + t271.size ≤ 9223372036854775807
         ·rw [if_pos c26] at H
          have c26b0 := eq_true c26
          have c26b1 : decide ((((((⟨#[115, 117, 98]⟩ : ByteArray) ++ t267) ++ (⟨#[32, 124]⟩ : ByteArray)) ++ t269) ++ (⟨#[32, 124]⟩ : ByteArray)).size + t271.size ≤ 9223372036854775807) = true := decide_eq_true c26
          try have c26b2 : (9223372036854775807 < (((((⟨#[115, 117, 98]⟩ : ByteArray) ++ t267) ++ (⟨#[32, 124]⟩ : ByteArray)) ++ t269) ++ (⟨#[32, 124]⟩ : ByteArray)).size + t271.size) = False := eq_false (Nat.not_lt.2 c26)
          try have c26b3 : (9223372036854775807 < 3 + t267.size + 2 + t269.size + 2 + t271.size) = False := eq_false (Nat.not_lt.2 (by have h_ := c26; simp only [ByteArray.size_append] at h_; exact h_))
          try (have c26b6 := c26b0; simp only [ByteArray.size_append, ByteArray.size_extract, Nat.min_self, Int.natCast_add] at c26b6)
          try (have c26b7 := c26b1; simp only [ByteArray.size_append, ByteArray.size_extract, Nat.min_self, Int.natCast_add] at c26b7)
          by_cases c27 : ((((((⟨#[115, 117, 98]⟩ : ByteArray) ++ t267) ++ (⟨#[32, 124]⟩ : ByteArray)) ++ t269) ++ (⟨#[32, 124]⟩ : ByteArray)) ++ t271).size + 3 ≤ 9223372036854775807
          ·rw [if_pos c27] at H
           have c27b0 := eq_true c27
           have c27b1 : decide (((((((⟨#[115, 117, 98]⟩ : ByteArray) ++ t267) ++ (⟨#[32, 124]⟩ : ByteArray)) ++ t269) ++ (⟨#[32, 124]⟩ : ByteArray)) ++ t271).size + 3 ≤ 9223372036854775807) = true := decide_eq_true c27
           try have c27b2 : (9223372036854775807 < ((((((⟨#[115, 117, 98]⟩ : ByteArray) ++ t267) ++ (⟨#[32, 124]⟩ : ByteArray)) ++ t269) ++ (⟨#[32, 124]⟩ : ByteArray)) ++ t271).size + 3) = False := eq_false (Nat.not_lt.2 c27)
           try have c27b3 : (9223372036854775807 < 3 + t267.size + 2 + t269.size + 2 + t271.size + 3) = False := eq_false (Nat.not_lt.2 (by have h_ := c27; simp only [ByteArray.size_append] at h_; exact h_))
           try (have c27b6 := c27b0; simp only [ByteArray.size_append, ByteArray.size_extract, Nat.min_self, Int.natCast_add] at c27b6)
           try (have c27b7 := c27b1; simp only [ByteArray.size_append, ByteArray.size_extract, Nat.min_self, Int.natCast_add] at c27b7)
           replace H := Option.bind_eq_some_iff.mp H
           obtain ⟨t273, A280, H⟩ := H
           replace H : (if (((((((⟨#[115, 117, 98]⟩ : ByteArray) ++ t267) ++ (⟨#[32, 124]⟩ : ByteArray)) ++ t269) ++ (⟨#[32, 124]⟩ : ByteArray)) ++ t271) ++ (⟨#[32, 98, 121]⟩ : ByteArray)).size + t273.size ≤ 9223372036854775807 then (some ((((((((⟨#[115, 117, 98]⟩ : ByteArray) ++ t267) ++ (⟨#[32, 124]⟩ : ByteArray)) ++ t269) ++ (⟨#[32, 124]⟩ : ByteArray)) ++ t271) ++ (⟨#[32, 98, 121]⟩ : ByteArray)) ++ t273)) else (none)) = some r := H
           have A28 := aM A280
           clear A280
           by_cases c29 : (((((((⟨#[115, 117, 98]⟩ : ByteArray) ++ t267) ++ (⟨#[32, 124]⟩ : ByteArray)) ++ t269) ++ (⟨#[32, 124]⟩ : ByteArray)) ++ t271) ++ (⟨#[32, 98, 121]⟩ : ByteArray)).size + t273.size ≤ 9223372036854775807
           ·rw [if_pos c29] at H
            have c29b0 := eq_true c29
            have c29b1 : decide ((((((((⟨#[115, 117, 98]⟩ : ByteArray) ++ t267) ++ (⟨#[32, 124]⟩ : ByteArray)) ++ t269) ++ (⟨#[32, 124]⟩ : ByteArray)) ++ t271) ++ (⟨#[32, 98, 121]⟩ : ByteArray)).size + t273.size ≤ 9223372036854775807) = true := decide_eq_true c29
            try have c29b2 : (9223372036854775807 < (((((((⟨#[115, 117, 98]⟩ : ByteArray) ++ t267) ++ (⟨#[32, 124]⟩ : ByteArray)) ++ t269) ++ (⟨#[32, 124]⟩ : ByteArray)) ++ t271) ++ (⟨#[32, 98, 121]⟩ : ByteArray)).size + t273.size) = False := eq_false (Nat.not_lt.2 c29)
            try have c29b3 : (9223372036854775807 < 3 + t267.size + 2 + t269.size + 2 + t271.size + 3 + t273.size) = False := eq_false (Nat.not_lt.2 (by have h_ := c29; simp only [ByteArray.size_append] at h_; exact h_))
            try (have c29b6 := c29b0; simp only [ByteArray.size_append, ByteArray.size_extract, Nat.min_self, Int.natCast_add] at c29b6)
            try (have c29b7 := c29b1; simp only [ByteArray.size_append, ByteArray.size_extract, Nat.min_self, Int.natCast_add] at c29b7)
            obtain rfl := Option.some.inj H
            have hx255_0 := HX9000_0.out
            have hx255_1 := HX9000_1.out
            have hx255_2 := HX9000_2.out
            have hx255_3 := HX9000_3.out
            have hx255_4 := HX9000_4.out
            have hx255_5 := HX9000_5.out
            have hx255_6 := HX9000_6.out
            have HR255_2 := HR9000_2
            have HC255_2 := HC9000_2
            have HR255_3 := HR9000_3
            have HC255_3 := HC9000_3
            have HR255_4 := HR9000_4
            have HC255_4 := HC9000_4
            have HR255_5 := HR9000_5
            have HC255_5 := HC9000_5
            go_enter Try.func34, Try.ntmps34
            try go_wp2
            have n0_ := aM (below_drew1 HB.out)
            clear HB
            have HB := n0_
            clear n0_
            have hx260_0 := HX9000_0.out
            have hx260_1 := HX9000_1.out
            have hx260_2 := HX9000_2.out
            have hx260_3 := HX9000_3.out
            have hx260_4 := HX9000_4.out
            have hx260_5 := HX9000_5.out
            have hx260_6 := HX9000_6.out
            have hw260_6 := hx260_6
            have hw260_5 := hx260_5
            have hw260_4 := hx260_4
            have hw260_3 := hx260_3
            have hw260_2 := hx260_2
            have hw260_1 := hx260_1
            have hw260_0 := hx260_0
            replace hx260_0 := cB HB.out hx260_0
            replace hx260_1 := cB HB.out hx260_1
            replace hx260_2 := cB HB.out hx260_2
            replace hx260_3 := cB HB.out hx260_3
            replace hx260_4 := cB HB.out hx260_4
            replace hx260_5 := cB HB.out hx260_5
            replace hx260_6 := cB HB.out hx260_6
            have HR260_2 := HR9000_2
            have HC260_2 := HC9000_2
            have HR260_3 := HR9000_3
            have HC260_3 := HC9000_3
            have HR260_4 := HR9000_4
            have HC260_4 := HC9000_4
            have HR260_5 := HR9000_5
            have HC260_5 := HC9000_5
            have hx261_0 := HX9000_0.out
            have hx261_1 := HX9000_1.out
            have hx261_2 := HX9000_2.out
            have hx261_3 := HX9000_3.out
            have hx261_4 := HX9000_4.out
            have hx261_5 := HX9000_5.out
            have hx261_6 := HX9000_6.out
            have hw261_6 := hx261_6
            have hw261_5 := hx261_5
            have hw261_4 := hx261_4
            have hw261_3 := hx261_3
            have hw261_2 := hx261_2
            have hw261_1 := hx261_1
            have hw261_0 := hx261_0
            replace hx261_0 := cB HB.out hx261_0
            replace hx261_1 := cB HB.out hx261_1
            replace hx261_2 := cB HB.out hx261_2
            replace hx261_3 := cB HB.out hx261_3
            replace hx261_4 := cB HB.out hx261_4
            replace hx261_5 := cB HB.out hx261_5
            replace hx261_6 := cB HB.out hx261_6
            have HR261_2 := HR9000_2
            have HC261_2 := HC9000_2
            have HR261_3 := HR9000_3
            have HC261_3 := HC9000_3
            have HR261_4 := HR9000_4
            have HC261_4 := HC9000_4
            have HR261_5 := HR9000_5
            have HC261_5 := HC9000_5
            refine start_ (n := 12) (S := fun w' => w'.cell? (ad0_.add ((a0_1).toNat * 7)) = some (.int .i64 ((rd_T39 l0_0 a0_1).f0)) ∧ w'.cell? ⟨(ad0_.add ((a0_1).toNat * 7)).block, (ad0_.add ((a0_1).toNat * 7)).off + 1, none⟩ = some (.string ((rd_T39 l0_0 a0_1).f1)) ∧ w'.cell? ⟨(ad0_.add ((a0_1).toNat * 7)).block, (ad0_.add ((a0_1).toNat * 7)).off + 2, none⟩ = some (.slice A9000_2 ((rd_T39 l0_0 a0_1).f2).length c9000_2) ∧ w'.cell? ⟨(ad0_.add ((a0_1).toNat * 7)).block, (ad0_.add ((a0_1).toNat * 7)).off + 3, none⟩ = some (.slice A9000_3 ((rd_T39 l0_0 a0_1).f3).length c9000_3) ∧ w'.cell? ⟨(ad0_.add ((a0_1).toNat * 7)).block, (ad0_.add ((a0_1).toNat * 7)).off + 4, none⟩ = some (.slice A9000_4 ((rd_T39 l0_0 a0_1).f4).length c9000_4) ∧ w'.cell? ⟨(ad0_.add ((a0_1).toNat * 7)).block, (ad0_.add ((a0_1).toNat * 7)).off + 5, none⟩ = some (.slice A9000_5 ((rd_T39 l0_0 a0_1).f5).length c9000_5) ∧ w'.cell? ⟨(ad0_.add ((a0_1).toNat * 7)).block, (ad0_.add ((a0_1).toNat * 7)).off + 6, none⟩ = some (.int .i64 ((rd_T39 l0_0 a0_1).f6)) ∧ w'.cell? (ad0_.add ((a0_1).toNat * 7)) = some (.int .i64 ((rd_T39 l0_0 a0_1).f0)) ∧ w'.cell? ⟨(ad0_.add ((a0_1).toNat * 7)).block, (ad0_.add ((a0_1).toNat * 7)).off + 1, none⟩ = some (.string ((rd_T39 l0_0 a0_1).f1)) ∧ w'.cell? ⟨(ad0_.add ((a0_1).toNat * 7)).block, (ad0_.add ((a0_1).toNat * 7)).off + 2, none⟩ = some (.slice A9000_2 ((rd_T39 l0_0 a0_1).f2).length c9000_2) ∧ w'.cell? ⟨(ad0_.add ((a0_1).toNat * 7)).block, (ad0_.add ((a0_1).toNat * 7)).off + 3, none⟩ = some (.slice A9000_3 ((rd_T39 l0_0 a0_1).f3).length c9000_3) ∧ w'.cell? ⟨(ad0_.add ((a0_1).toNat * 7)).block, (ad0_.add ((a0_1).toNat * 7)).off + 4, none⟩ = some (.slice A9000_4 ((rd_T39 l0_0 a0_1).f4).length c9000_4) ∧ w'.cell? ⟨(ad0_.add ((a0_1).toNat * 7)).block, (ad0_.add ((a0_1).toNat * 7)).off + 5, none⟩ = some (.slice A9000_5 ((rd_T39 l0_0 a0_1).f5).length c9000_5) ∧ w'.cell? ⟨(ad0_.add ((a0_1).toNat * 7)).block, (ad0_.add ((a0_1).toNat * 7)).off + 6, none⟩ = some (.int .i64 ((rd_T39 l0_0 a0_1).f6))) (ds := []) mkspec_l464_94 (by kernel_rfl) rfl rfl ⟨(cB HB.out hw260_0), (cB HB.out hw260_1), (cB HB.out hw260_2), (cB HB.out hw260_3), (cB HB.out hw260_4), (cB HB.out hw260_5), (cB HB.out hw260_6), (cB HB.out hw261_0), (cB HB.out hw261_1), (cB HB.out hw261_2), (cB HB.out hw261_3), (cB HB.out hw261_4), (cB HB.out hw261_5), (cB HB.out hw261_6)⟩ (fun hHeld => ?_); refine with_tabW spec_l24Text_at.tab7 spec_l24Text_at.bits7 (fun HT_ HW_ => ?_)
            generalize w.drew = w30 at HB HR260_2 HR260_3 HR260_4 HR260_5 HR261_2 HR261_3 HR261_4 HR261_5 hx260_0 hx260_1 hx260_2 hx260_3 hx260_4 hx260_5 hx260_6 hx261_0 hx261_1 hx261_2 hx261_3 hx261_4 hx261_5 hx261_6 hHeld ⊢
            refine pQ (i := 0) (N := some 30) mkspec_l464_97 ?_
            refine pQ (i := 1) (N := some 31) mkspec_l464_99 ?_
            refine pQ (i := 2) (N := some 32) mkspec_l464_101 ?_
            refine pQ (i := 5) (N := some 35) mkspec_l464_103 ?_
            refine pQ (i := 6) (N := some 36) mkspec_l464_105 ?_
            refine pQ (i := 7) (N := some 37) mkspec_l464_107 ?_
            refine tQ (i := 3) (N := some 33) mkspec_l464_108 rfl hHeld (Or.inl ⟨by rfl, by rintro w' ⟨s0, s1, s2, s3, s4, s5, s6, s7, s8, s9, s10, s11, s12, s13⟩; go_simp; with_reducible rfl⟩) ?_
            refine pQ (i := 4) (N := some 34) mkspec_l464_109 ?_
            refine tQ (i := 8) (N := some 38) mkspec_l464_110 rfl hHeld (Or.inl ⟨by rfl, by rintro w' ⟨s0, s1, s2, s3, s4, s5, s6, s7, s8, s9, s10, s11, s12, s13⟩; go_simp; with_reducible rfl⟩) ?_
            refine pQ (i := 9) (N := some 39) mkspec_l464_111 ?_
            refine pQ (i := 10) (N := some 40) mkspec_l464_112 ?_
            refine pQ (i := 11) (N := some 41) mkspec_l464_113 ?_
            refine done_ (done_of HT_.out (by kernel_rfl)) ?_
            try go_wp2
            have n0_ := aM (below_drew1 HB.out)
            clear HB
            have HB := n0_
            clear n0_
            have hx266_0 := HX9000_0.out
            have hx266_1 := HX9000_1.out
            have hx266_2 := HX9000_2.out
            have hx266_3 := HX9000_3.out
            have hx266_4 := HX9000_4.out
            have hx266_5 := HX9000_5.out
            have hx266_6 := HX9000_6.out
            have hw266_6 := hx266_6
            have hw266_5 := hx266_5
            have hw266_4 := hx266_4
            have hw266_3 := hx266_3
            have hw266_2 := hx266_2
            have hw266_1 := hx266_1
            have hw266_0 := hx266_0
            replace hx266_0 := cB HB.out hx266_0
            replace hx266_1 := cB HB.out hx266_1
            replace hx266_2 := cB HB.out hx266_2
            replace hx266_3 := cB HB.out hx266_3
            replace hx266_4 := cB HB.out hx266_4
            replace hx266_5 := cB HB.out hx266_5
            replace hx266_6 := cB HB.out hx266_6
            have HR266_2 := HR9000_2
            have HC266_2 := HC9000_2
            have HR266_3 := HR9000_3
            have HC266_3 := HC9000_3
            have HR266_4 := HR9000_4
            have HC266_4 := HC9000_4
            have HR266_5 := HR9000_5
            have HC266_5 := HC9000_5
            have hx268_0 := HX9000_0.out
            have hx268_1 := HX9000_1.out
            have hx268_2 := HX9000_2.out
            have hx268_3 := HX9000_3.out
            have hx268_4 := HX9000_4.out
            have hx268_5 := HX9000_5.out
            have hx268_6 := HX9000_6.out
            have hw268_6 := hx268_6
            have hw268_5 := hx268_5
            have hw268_4 := hx268_4
            have hw268_3 := hx268_3
            have hw268_2 := hx268_2
            have hw268_1 := hx268_1
            have hw268_0 := hx268_0
            replace hx268_0 := cB HB.out hx268_0
            replace hx268_1 := cB HB.out hx268_1
            replace hx268_2 := cB HB.out hx268_2
            replace hx268_3 := cB HB.out hx268_3
            replace hx268_4 := cB HB.out hx268_4
            replace hx268_5 := cB HB.out hx268_5
            replace hx268_6 := cB HB.out hx268_6
            have HR268_2 := HR9000_2
            have HC268_2 := HC9000_2
            have HR268_3 := HR9000_3
            have HC268_3 := HC9000_3
            have HR268_4 := HR9000_4
            have HC268_4 := HC9000_4
            have HR268_5 := HR9000_5
            have HC268_5 := HC9000_5
            have hx270_0 := HX9000_0.out
            have hx270_1 := HX9000_1.out
            have hx270_2 := HX9000_2.out
            have hx270_3 := HX9000_3.out
            have hx270_4 := HX9000_4.out
            have hx270_5 := HX9000_5.out
            have hx270_6 := HX9000_6.out
            have hw270_6 := hx270_6
            have hw270_5 := hx270_5
            have hw270_4 := hx270_4
            have hw270_3 := hx270_3
            have hw270_2 := hx270_2
            have hw270_1 := hx270_1
            have hw270_0 := hx270_0
            replace hx270_0 := cB HB.out hx270_0
            replace hx270_1 := cB HB.out hx270_1
            replace hx270_2 := cB HB.out hx270_2
            replace hx270_3 := cB HB.out hx270_3
            replace hx270_4 := cB HB.out hx270_4
            replace hx270_5 := cB HB.out hx270_5
            replace hx270_6 := cB HB.out hx270_6
            have HR270_2 := HR9000_2
            have HC270_2 := HC9000_2
            have HR270_3 := HR9000_3
            have HC270_3 := HC9000_3
            have HR270_4 := HR9000_4
            have HC270_4 := HC9000_4
            have HR270_5 := HR9000_5
            have HC270_5 := HC9000_5
            have hx272_0 := HX9000_0.out
            have hx272_1 := HX9000_1.out
            have hx272_2 := HX9000_2.out
            have hx272_3 := HX9000_3.out
            have hx272_4 := HX9000_4.out
            have hx272_5 := HX9000_5.out
            have hx272_6 := HX9000_6.out
            have hw272_6 := hx272_6
            have hw272_5 := hx272_5
            have hw272_4 := hx272_4
            have hw272_3 := hx272_3
            have hw272_2 := hx272_2
            have hw272_1 := hx272_1
            have hw272_0 := hx272_0
            replace hx272_0 := cB HB.out hx272_0
            replace hx272_1 := cB HB.out hx272_1
            replace hx272_2 := cB HB.out hx272_2
            replace hx272_3 := cB HB.out hx272_3
            replace hx272_4 := cB HB.out hx272_4
            replace hx272_5 := cB HB.out hx272_5
            replace hx272_6 := cB HB.out hx272_6
            have HR272_2 := HR9000_2
            have HC272_2 := HC9000_2
            have HR272_3 := HR9000_3
            have HC272_3 := HC9000_3
            have HR272_4 := HR9000_4
            have HC272_4 := HC9000_4
            have HR272_5 := HR9000_5
            have HC272_5 := HC9000_5
            refine start_ (n := 28) (S := fun w' => w'.cell? (ad0_.add ((a0_1).toNat * 7)) = some (.int .i64 ((rd_T39 l0_0 a0_1).f0)) ∧ w'.cell? ⟨(ad0_.add ((a0_1).toNat * 7)).block, (ad0_.add ((a0_1).toNat * 7)).off + 1, none⟩ = some (.string ((rd_T39 l0_0 a0_1).f1)) ∧ w'.cell? ⟨(ad0_.add ((a0_1).toNat * 7)).block, (ad0_.add ((a0_1).toNat * 7)).off + 2, none⟩ = some (.slice A9000_2 ((rd_T39 l0_0 a0_1).f2).length c9000_2) ∧ w'.cell? ⟨(ad0_.add ((a0_1).toNat * 7)).block, (ad0_.add ((a0_1).toNat * 7)).off + 3, none⟩ = some (.slice A9000_3 ((rd_T39 l0_0 a0_1).f3).length c9000_3) ∧ w'.cell? ⟨(ad0_.add ((a0_1).toNat * 7)).block, (ad0_.add ((a0_1).toNat * 7)).off + 4, none⟩ = some (.slice A9000_4 ((rd_T39 l0_0 a0_1).f4).length c9000_4) ∧ w'.cell? ⟨(ad0_.add ((a0_1).toNat * 7)).block, (ad0_.add ((a0_1).toNat * 7)).off + 5, none⟩ = some (.slice A9000_5 ((rd_T39 l0_0 a0_1).f5).length c9000_5) ∧ w'.cell? ⟨(ad0_.add ((a0_1).toNat * 7)).block, (ad0_.add ((a0_1).toNat * 7)).off + 6, none⟩ = some (.int .i64 ((rd_T39 l0_0 a0_1).f6)) ∧ w'.cell? (ad0_.add ((a0_1).toNat * 7)) = some (.int .i64 ((rd_T39 l0_0 a0_1).f0)) ∧ w'.cell? ⟨(ad0_.add ((a0_1).toNat * 7)).block, (ad0_.add ((a0_1).toNat * 7)).off + 1, none⟩ = some (.string ((rd_T39 l0_0 a0_1).f1)) ∧ w'.cell? ⟨(ad0_.add ((a0_1).toNat * 7)).block, (ad0_.add ((a0_1).toNat * 7)).off + 2, none⟩ = some (.slice A9000_2 ((rd_T39 l0_0 a0_1).f2).length c9000_2) ∧ w'.cell? ⟨(ad0_.add ((a0_1).toNat * 7)).block, (ad0_.add ((a0_1).toNat * 7)).off + 3, none⟩ = some (.slice A9000_3 ((rd_T39 l0_0 a0_1).f3).length c9000_3) ∧ w'.cell? ⟨(ad0_.add ((a0_1).toNat * 7)).block, (ad0_.add ((a0_1).toNat * 7)).off + 4, none⟩ = some (.slice A9000_4 ((rd_T39 l0_0 a0_1).f4).length c9000_4) ∧ w'.cell? ⟨(ad0_.add ((a0_1).toNat * 7)).block, (ad0_.add ((a0_1).toNat * 7)).off + 5, none⟩ = some (.slice A9000_5 ((rd_T39 l0_0 a0_1).f5).length c9000_5) ∧ w'.cell? ⟨(ad0_.add ((a0_1).toNat * 7)).block, (ad0_.add ((a0_1).toNat * 7)).off + 6, none⟩ = some (.int .i64 ((rd_T39 l0_0 a0_1).f6)) ∧ w'.cell? (ad0_.add ((a0_1).toNat * 7)) = some (.int .i64 ((rd_T39 l0_0 a0_1).f0)) ∧ w'.cell? ⟨(ad0_.add ((a0_1).toNat * 7)).block, (ad0_.add ((a0_1).toNat * 7)).off + 1, none⟩ = some (.string ((rd_T39 l0_0 a0_1).f1)) ∧ w'.cell? ⟨(ad0_.add ((a0_1).toNat * 7)).block, (ad0_.add ((a0_1).toNat * 7)).off + 2, none⟩ = some (.slice A9000_2 ((rd_T39 l0_0 a0_1).f2).length c9000_2) ∧ w'.cell? ⟨(ad0_.add ((a0_1).toNat * 7)).block, (ad0_.add ((a0_1).toNat * 7)).off + 3, none⟩ = some (.slice A9000_3 ((rd_T39 l0_0 a0_1).f3).length c9000_3) ∧ w'.cell? ⟨(ad0_.add ((a0_1).toNat * 7)).block, (ad0_.add ((a0_1).toNat * 7)).off + 4, none⟩ = some (.slice A9000_4 ((rd_T39 l0_0 a0_1).f4).length c9000_4) ∧ w'.cell? ⟨(ad0_.add ((a0_1).toNat * 7)).block, (ad0_.add ((a0_1).toNat * 7)).off + 5, none⟩ = some (.slice A9000_5 ((rd_T39 l0_0 a0_1).f5).length c9000_5) ∧ w'.cell? ⟨(ad0_.add ((a0_1).toNat * 7)).block, (ad0_.add ((a0_1).toNat * 7)).off + 6, none⟩ = some (.int .i64 ((rd_T39 l0_0 a0_1).f6)) ∧ w'.cell? (ad0_.add ((a0_1).toNat * 7)) = some (.int .i64 ((rd_T39 l0_0 a0_1).f0)) ∧ w'.cell? ⟨(ad0_.add ((a0_1).toNat * 7)).block, (ad0_.add ((a0_1).toNat * 7)).off + 1, none⟩ = some (.string ((rd_T39 l0_0 a0_1).f1)) ∧ w'.cell? ⟨(ad0_.add ((a0_1).toNat * 7)).block, (ad0_.add ((a0_1).toNat * 7)).off + 2, none⟩ = some (.slice A9000_2 ((rd_T39 l0_0 a0_1).f2).length c9000_2) ∧ w'.cell? ⟨(ad0_.add ((a0_1).toNat * 7)).block, (ad0_.add ((a0_1).toNat * 7)).off + 3, none⟩ = some (.slice A9000_3 ((rd_T39 l0_0 a0_1).f3).length c9000_3) ∧ w'.cell? ⟨(ad0_.add ((a0_1).toNat * 7)).block, (ad0_.add ((a0_1).toNat * 7)).off + 4, none⟩ = some (.slice A9000_4 ((rd_T39 l0_0 a0_1).f4).length c9000_4) ∧ w'.cell? ⟨(ad0_.add ((a0_1).toNat * 7)).block, (ad0_.add ((a0_1).toNat * 7)).off + 5, none⟩ = some (.slice A9000_5 ((rd_T39 l0_0 a0_1).f5).length c9000_5) ∧ w'.cell? ⟨(ad0_.add ((a0_1).toNat * 7)).block, (ad0_.add ((a0_1).toNat * 7)).off + 6, none⟩ = some (.int .i64 ((rd_T39 l0_0 a0_1).f6))) (ds := []) mkspec_l464_0 (by kernel_rfl) rfl rfl ⟨(cB HB.out hw266_0), (cB HB.out hw266_1), (cB HB.out hw266_2), (cB HB.out hw266_3), (cB HB.out hw266_4), (cB HB.out hw266_5), (cB HB.out hw266_6), (cB HB.out hw268_0), (cB HB.out hw268_1), (cB HB.out hw268_2), (cB HB.out hw268_3), (cB HB.out hw268_4), (cB HB.out hw268_5), (cB HB.out hw268_6), (cB HB.out hw270_0), (cB HB.out hw270_1), (cB HB.out hw270_2), (cB HB.out hw270_3), (cB HB.out hw270_4), (cB HB.out hw270_5), (cB HB.out hw270_6), (cB HB.out hw272_0), (cB HB.out hw272_1), (cB HB.out hw272_2), (cB HB.out hw272_3), (cB HB.out hw272_4), (cB HB.out hw272_5), (cB HB.out hw272_6)⟩ (fun hHeld => ?_); refine with_tabW spec_l24Text_at.tab9 spec_l24Text_at.bits9 (fun HT_ HW_ => ?_)
            generalize w30.drew = w31 at HB HR266_2 HR266_3 HR266_4 HR266_5 HR268_2 HR268_3 HR268_4 HR268_5 HR270_2 HR270_3 HR270_4 HR270_5 HR272_2 HR272_3 HR272_4 HR272_5 hx266_0 hx266_1 hx266_2 hx266_3 hx266_4 hx266_5 hx266_6 hx268_0 hx268_1 hx268_2 hx268_3 hx268_4 hx268_5 hx268_6 hx270_0 hx270_1 hx270_2 hx270_3 hx270_4 hx270_5 hx270_6 hx272_0 hx272_1 hx272_2 hx272_3 hx272_4 hx272_5 hx272_6 hHeld ⊢
            refine pQ (i := 0) (N := some 55) mkspec_l464_1 ?_
            refine pQ (i := 1) (N := some 56) mkspec_l464_2 ?_
            refine pQ (i := 2) (N := some 57) mkspec_l464_3 ?_
            refine pQ (i := 7) (N := some 62) mkspec_l464_4 ?_
            refine pQ (i := 8) (N := some 63) mkspec_l464_5 ?_
            refine pQ (i := 9) (N := some 64) mkspec_l464_6 ?_
            refine pQ (i := 14) (N := some 69) mkspec_l464_7 ?_
            refine pQ (i := 15) (N := some 70) mkspec_l464_8 ?_
            refine pQ (i := 16) (N := some 71) mkspec_l464_9 ?_
            refine pQ (i := 21) (N := some 76) mkspec_l464_10 ?_
            refine pQ (i := 22) (N := some 77) mkspec_l464_11 ?_
            refine pQ (i := 23) (N := some 78) mkspec_l464_12 ?_
            refine tQ (i := 3) (N := some 58) mkspec_l464_13 rfl hHeld (Or.inl ⟨by rfl, by rintro w' ⟨s0, s1, s2, s3, s4, s5, s6, s7, s8, s9, s10, s11, s12, s13, s14, s15, s16, s17, s18, s19, s20, s21, s22, s23, s24, s25, s26, s27⟩; go_simp; with_reducible rfl⟩) ?_
            refine tQ (i := 10) (N := some 65) mkspec_l464_14 rfl hHeld (Or.inl ⟨by rfl, by rintro w' ⟨s0, s1, s2, s3, s4, s5, s6, s7, s8, s9, s10, s11, s12, s13, s14, s15, s16, s17, s18, s19, s20, s21, s22, s23, s24, s25, s26, s27⟩; go_simp; with_reducible rfl⟩) ?_
            refine tQ (i := 17) (N := some 72) mkspec_l464_15 rfl hHeld (Or.inl ⟨by rfl, by rintro w' ⟨s0, s1, s2, s3, s4, s5, s6, s7, s8, s9, s10, s11, s12, s13, s14, s15, s16, s17, s18, s19, s20, s21, s22, s23, s24, s25, s26, s27⟩; go_simp; with_reducible rfl⟩) ?_
            refine tQ (i := 24) (N := some 79) mkspec_l464_16 rfl hHeld (Or.inl ⟨by rfl, by rintro w' ⟨s0, s1, s2, s3, s4, s5, s6, s7, s8, s9, s10, s11, s12, s13, s14, s15, s16, s17, s18, s19, s20, s21, s22, s23, s24, s25, s26, s27⟩; go_simp; with_reducible rfl⟩) ?_
            refine one_ (i := 4) (N := some 59) mkspec_l464_17 rfl rfl (one_of HT_.out (by kernel_rfl)) (by decide) (fun K hK => ?_)
            refine goes_ Try.func56 (by kernel_rfl) rfl #[.slice A9000_2 ((rd_T39 l0_0 a0_1).f2).length c9000_2] (by rfl) rfl rfl gQ ?_
            with_reducible refine (spec_l24Words.calls k _ _ ((rd_T39 l0_0 a0_1).f2) t267 _ ?side1 ?side2 A19.out).mono ?_
            (case side1 => exact cQ HR266_2.out)
            (case side2 => exact HC266_2.out)
            rintro e w' ⟨rfl, ⟨nd, rfl⟩⟩
            refine ⟨_, rfl, ?_⟩
            refine hK.out _ _ ⟨(cB HB.out hw266_0), (cB HB.out hw266_1), (cB HB.out hw266_2), (cB HB.out hw266_3), (cB HB.out hw266_4), (cB HB.out hw266_5), (cB HB.out hw266_6), (cB HB.out hw268_0), (cB HB.out hw268_1), (cB HB.out hw268_2), (cB HB.out hw268_3), (cB HB.out hw268_4), (cB HB.out hw268_5), (cB HB.out hw268_6), (cB HB.out hw270_0), (cB HB.out hw270_1), (cB HB.out hw270_2), (cB HB.out hw270_3), (cB HB.out hw270_4), (cB HB.out hw270_5), (cB HB.out hw270_6), (cB HB.out hw272_0), (cB HB.out hw272_1), (cB HB.out hw272_2), (cB HB.out hw272_3), (cB HB.out hw272_4), (cB HB.out hw272_5), (cB HB.out hw272_6)⟩ (fun hHeld => ?_)
            clear hK K
            refine norm_ (a' := ?_) ?_ ?_
            rotate_left
            ·show Act.put _ (some 59) _ = _
             simp only [Act.put, sI, sZ, sS, i64_w, i32_w]
             rfl
            refine pQ (i := 5) (N := some 60) mkspec_l464_18 ?_
            refine pQ (i := 6) (N := some 61) mkspec_l464_19 ?_
            refine one_ (i := 11) (N := some 66) mkspec_l464_20 rfl rfl (one_of HT_.out (by kernel_rfl)) (by decide) (fun K hK => ?_)
            refine goes_ Try.func56 (by kernel_rfl) rfl #[.slice A9000_3 ((rd_T39 l0_0 a0_1).f3).length c9000_3] (by rfl) rfl rfl gQ ?_
            with_reducible refine (spec_l24Words.calls k _ _ ((rd_T39 l0_0 a0_1).f3) t269 _ ?side1 ?side2 A22.out).mono ?_
            (case side1 => exact cQ HR268_3.out)
            (case side2 => exact HC268_3.out)
            rintro e w' ⟨rfl, ⟨nd, rfl⟩⟩
            refine ⟨_, rfl, ?_⟩
            refine hK.out _ _ ⟨(cB HB.out hw266_0), (cB HB.out hw266_1), (cB HB.out hw266_2), (cB HB.out hw266_3), (cB HB.out hw266_4), (cB HB.out hw266_5), (cB HB.out hw266_6), (cB HB.out hw268_0), (cB HB.out hw268_1), (cB HB.out hw268_2), (cB HB.out hw268_3), (cB HB.out hw268_4), (cB HB.out hw268_5), (cB HB.out hw268_6), (cB HB.out hw270_0), (cB HB.out hw270_1), (cB HB.out hw270_2), (cB HB.out hw270_3), (cB HB.out hw270_4), (cB HB.out hw270_5), (cB HB.out hw270_6), (cB HB.out hw272_0), (cB HB.out hw272_1), (cB HB.out hw272_2), (cB HB.out hw272_3), (cB HB.out hw272_4), (cB HB.out hw272_5), (cB HB.out hw272_6)⟩ (fun hHeld => ?_)
            clear hK K
            refine norm_ (a' := ?_) ?_ ?_
            rotate_left
            ·show Act.put _ (some 66) _ = _
             simp only [Act.put, sI, sZ, sS, i64_w, i32_w]
             rfl
            refine pQ (i := 12) (N := some 67) mkspec_l464_21 ?_
            refine pQ (i := 13) (N := some 68) mkspec_l464_22 ?_
            refine one_ (i := 18) (N := some 73) mkspec_l464_23 rfl rfl (one_of HT_.out (by kernel_rfl)) (by decide) (fun K hK => ?_)
            refine goes_ Try.func56 (by kernel_rfl) rfl #[.slice A9000_4 ((rd_T39 l0_0 a0_1).f4).length c9000_4] (by rfl) rfl rfl gQ ?_
            with_reducible refine (spec_l24Words.calls k _ _ ((rd_T39 l0_0 a0_1).f4) t271 _ ?side1 ?side2 A25.out).mono ?_
            (case side1 => exact cQ HR270_4.out)
            (case side2 => exact HC270_4.out)
            rintro e w' ⟨rfl, ⟨nd, rfl⟩⟩
            refine ⟨_, rfl, ?_⟩
            refine hK.out _ _ ⟨(cB HB.out hw266_0), (cB HB.out hw266_1), (cB HB.out hw266_2), (cB HB.out hw266_3), (cB HB.out hw266_4), (cB HB.out hw266_5), (cB HB.out hw266_6), (cB HB.out hw268_0), (cB HB.out hw268_1), (cB HB.out hw268_2), (cB HB.out hw268_3), (cB HB.out hw268_4), (cB HB.out hw268_5), (cB HB.out hw268_6), (cB HB.out hw270_0), (cB HB.out hw270_1), (cB HB.out hw270_2), (cB HB.out hw270_3), (cB HB.out hw270_4), (cB HB.out hw270_5), (cB HB.out hw270_6), (cB HB.out hw272_0), (cB HB.out hw272_1), (cB HB.out hw272_2), (cB HB.out hw272_3), (cB HB.out hw272_4), (cB HB.out hw272_5), (cB HB.out hw272_6)⟩ (fun hHeld => ?_)
            clear hK K
            refine norm_ (a' := ?_) ?_ ?_
            rotate_left
            ·show Act.put _ (some 73) _ = _
             simp only [Act.put, sI, sZ, sS, i64_w, i32_w]
             rfl
            refine pQ (i := 19) (N := some 74) mkspec_l464_24 ?_
            refine pQ (i := 20) (N := some 75) mkspec_l464_25 ?_
            refine one_ (i := 25) (N := some 80) mkspec_l464_26 rfl rfl (one_of HT_.out (by kernel_rfl)) (by decide) (fun K hK => ?_)
            refine goes_ Try.func56 (by kernel_rfl) rfl #[.slice A9000_5 ((rd_T39 l0_0 a0_1).f5).length c9000_5] (by rfl) rfl rfl gQ ?_
            with_reducible refine (spec_l24Words.calls k _ _ ((rd_T39 l0_0 a0_1).f5) t273 _ ?side1 ?side2 A28.out).mono ?_
            (case side1 => exact cQ HR272_5.out)
            (case side2 => exact HC272_5.out)
            rintro e w' ⟨rfl, ⟨nd, rfl⟩⟩
            refine ⟨_, rfl, ?_⟩
            refine hK.out _ _ ⟨(cB HB.out hw266_0), (cB HB.out hw266_1), (cB HB.out hw266_2), (cB HB.out hw266_3), (cB HB.out hw266_4), (cB HB.out hw266_5), (cB HB.out hw266_6), (cB HB.out hw268_0), (cB HB.out hw268_1), (cB HB.out hw268_2), (cB HB.out hw268_3), (cB HB.out hw268_4), (cB HB.out hw268_5), (cB HB.out hw268_6), (cB HB.out hw270_0), (cB HB.out hw270_1), (cB HB.out hw270_2), (cB HB.out hw270_3), (cB HB.out hw270_4), (cB HB.out hw270_5), (cB HB.out hw270_6), (cB HB.out hw272_0), (cB HB.out hw272_1), (cB HB.out hw272_2), (cB HB.out hw272_3), (cB HB.out hw272_4), (cB HB.out hw272_5), (cB HB.out hw272_6)⟩ (fun hHeld => ?_)
            clear hK K
            refine norm_ (a' := ?_) ?_ ?_
            rotate_left
            ·show Act.put _ (some 80) _ = _
             simp only [Act.put, sI, sZ, sS, i64_w, i32_w]
             rfl
            refine pQ (i := 26) (N := some 81) mkspec_l464_27 ?_
            refine pQ (i := 27) (N := some 2) mkspec_l464_28 ?_
            refine done_ (done_of HT_.out (by kernel_rfl)) ?_
            try go_wp2
            go_ret
            exact ⟨eQ, bQ⟩
           ·rw [if_neg c29] at H
            exact absurd H (by simp)
          ·rw [if_neg c27] at H
           exact absurd H (by simp)
         ·rw [if_neg c26] at H
          exact absurd H (by simp)
        ·rw [if_neg c24] at H
         exact absurd H (by simp)
       ·rw [if_neg c23] at H
        exact absurd H (by simp)
      ·rw [if_neg c21] at H
       exact absurd H (by simp)
     ·rw [if_neg c20] at H
      exact absurd H (by simp)
   ·rw [if_neg c10] at H
    have c10b0 : (((rd_T39 l0_0 a0_1).f0) == 3) = false := beq_eq_false_iff_ne.mpr c10
    have c10b1 : (((rd_T39 l0_0 a0_1).f0) != 3) = true := bne_iff_ne.mpr c10
    by_cases c32 : ((rd_T39 l0_0 a0_1).f0) = 5
    ·rw [if_pos c32] at H
     have c32b0 : (((rd_T39 l0_0 a0_1).f0) == 5) = true := beq_iff_eq.mpr c32
     have c32b1 : (((rd_T39 l0_0 a0_1).f0) != 5) = false := bne_eq_false_iff_eq.mpr c32
     clear c32
     replace H := Option.bind_eq_some_iff.mp H
     obtain ⟨t275, A330, H⟩ := H
     replace H : (if 4 + t275.size ≤ 9223372036854775807 then (if ((⟨#[107, 101, 114, 110]⟩ : ByteArray) ++ t275).size + 1 ≤ 9223372036854775807 then ((spec_l01Dec.f k ((rd_T39 l0_0 a0_1).f6)).bind fun t277 => (if (((⟨#[107, 101, 114, 110]⟩ : ByteArray) ++ t275) ++ (⟨#[32]⟩ : ByteArray)).size + t277.size ≤ 9223372036854775807 then (some ((((⟨#[107, 101, 114, 110]⟩ : ByteArray) ++ t275) ++ (⟨#[32]⟩ : ByteArray)) ++ t277)) else (none))) else (none)) else (none)) = some r := H
     have A33 := aM A330
     clear A330
     by_cases c34 : 4 + t275.size ≤ 9223372036854775807
     ·rw [if_pos c34] at H
      have c34b0 := eq_true c34
      have c34b1 : decide (4 + t275.size ≤ 9223372036854775807) = true := decide_eq_true c34
      try have c34b2 : (9223372036854775807 < 4 + t275.size) = False := eq_false (Nat.not_lt.2 c34)
      by_cases c35 : ((⟨#[107, 101, 114, 110]⟩ : ByteArray) ++ t275).size + 1 ≤ 9223372036854775807
      ·rw [if_pos c35] at H
       have c35b0 := eq_true c35
       have c35b1 : decide (((⟨#[107, 101, 114, 110]⟩ : ByteArray) ++ t275).size + 1 ≤ 9223372036854775807) = true := decide_eq_true c35
       try have c35b2 : (9223372036854775807 < ((⟨#[107, 101, 114, 110]⟩ : ByteArray) ++ t275).size + 1) = False := eq_false (Nat.not_lt.2 c35)
       try have c35b3 : (9223372036854775807 < 4 + t275.size + 1) = False := eq_false (Nat.not_lt.2 (by have h_ := c35; simp only [ByteArray.size_append] at h_; exact h_))
       try (have c35b6 := c35b0; simp only [ByteArray.size_append, ByteArray.size_extract, Nat.min_self, Int.natCast_add] at c35b6)
       try (have c35b7 := c35b1; simp only [ByteArray.size_append, ByteArray.size_extract, Nat.min_self, Int.natCast_add] at c35b7)
       replace H := Option.bind_eq_some_iff.mp H
       obtain ⟨t277, A360, H⟩ := H
       replace H : (if (((⟨#[107, 101, 114, 110]⟩ : ByteArray) ++ t275) ++ (⟨#[32]⟩ : ByteArray)).size + t277.size ≤ 9223372036854775807 then (some ((((⟨#[107, 101, 114, 110]⟩ : ByteArray) ++ t275) ++ (⟨#[32]⟩ : ByteArray)) ++ t277)) else (none)) = some r := H
       have A36 := aM A360
       clear A360
       by_cases c37 : (((⟨#[107, 101, 114, 110]⟩ : ByteArray) ++ t275) ++ (⟨#[32]⟩ : ByteArray)).size + t277.size ≤ 9223372036854775807
       ·rw [if_pos c37] at H
        have c37b0 := eq_true c37
        have c37b1 : decide ((((⟨#[107, 101, 114, 110]⟩ : ByteArray) ++ t275) ++ (⟨#[32]⟩ : ByteArray)).size + t277.size ≤ 9223372036854775807) = true := decide_eq_true c37
        try have c37b2 : (9223372036854775807 < (((⟨#[107, 101, 114, 110]⟩ : ByteArray) ++ t275) ++ (⟨#[32]⟩ : ByteArray)).size + t277.size) = False := eq_false (Nat.not_lt.2 c37)
        try have c37b3 : (9223372036854775807 < 4 + t275.size + 1 + t277.size) = False := eq_false (Nat.not_lt.2 (by have h_ := c37; simp only [ByteArray.size_append] at h_; exact h_))
        try (have c37b6 := c37b0; simp only [ByteArray.size_append, ByteArray.size_extract, Nat.min_self, Int.natCast_add] at c37b6)
        try (have c37b7 := c37b1; simp only [ByteArray.size_append, ByteArray.size_extract, Nat.min_self, Int.natCast_add] at c37b7)
        obtain rfl := Option.some.inj H
        have hx255_0 := HX9000_0.out
        have hx255_1 := HX9000_1.out
        have hx255_2 := HX9000_2.out
        have hx255_3 := HX9000_3.out
        have hx255_4 := HX9000_4.out
        have hx255_5 := HX9000_5.out
        have hx255_6 := HX9000_6.out
        have HR255_2 := HR9000_2
        have HC255_2 := HC9000_2
        have HR255_3 := HR9000_3
        have HC255_3 := HC9000_3
        have HR255_4 := HR9000_4
        have HC255_4 := HC9000_4
        have HR255_5 := HR9000_5
        have HC255_5 := HC9000_5
        go_enter Try.func34, Try.ntmps34
        try go_wp2
        have n0_ := aM (below_drew1 HB.out)
        clear HB
        have HB := n0_
        clear n0_
        have hx274_0 := HX9000_0.out
        have hx274_1 := HX9000_1.out
        have hx274_2 := HX9000_2.out
        have hx274_3 := HX9000_3.out
        have hx274_4 := HX9000_4.out
        have hx274_5 := HX9000_5.out
        have hx274_6 := HX9000_6.out
        have hw274_6 := hx274_6
        have hw274_5 := hx274_5
        have hw274_4 := hx274_4
        have hw274_3 := hx274_3
        have hw274_2 := hx274_2
        have hw274_1 := hx274_1
        have hw274_0 := hx274_0
        replace hx274_0 := cB HB.out hx274_0
        replace hx274_1 := cB HB.out hx274_1
        replace hx274_2 := cB HB.out hx274_2
        replace hx274_3 := cB HB.out hx274_3
        replace hx274_4 := cB HB.out hx274_4
        replace hx274_5 := cB HB.out hx274_5
        replace hx274_6 := cB HB.out hx274_6
        have HR274_2 := HR9000_2
        have HC274_2 := HC9000_2
        have HR274_3 := HR9000_3
        have HC274_3 := HC9000_3
        have HR274_4 := HR9000_4
        have HC274_4 := HC9000_4
        have HR274_5 := HR9000_5
        have HC274_5 := HC9000_5
        have hx276_0 := HX9000_0.out
        have hx276_1 := HX9000_1.out
        have hx276_2 := HX9000_2.out
        have hx276_3 := HX9000_3.out
        have hx276_4 := HX9000_4.out
        have hx276_5 := HX9000_5.out
        have hx276_6 := HX9000_6.out
        have hw276_6 := hx276_6
        have hw276_5 := hx276_5
        have hw276_4 := hx276_4
        have hw276_3 := hx276_3
        have hw276_2 := hx276_2
        have hw276_1 := hx276_1
        have hw276_0 := hx276_0
        replace hx276_0 := cB HB.out hx276_0
        replace hx276_1 := cB HB.out hx276_1
        replace hx276_2 := cB HB.out hx276_2
        replace hx276_3 := cB HB.out hx276_3
        replace hx276_4 := cB HB.out hx276_4
        replace hx276_5 := cB HB.out hx276_5
        replace hx276_6 := cB HB.out hx276_6
        have HR276_2 := HR9000_2
        have HC276_2 := HC9000_2
        have HR276_3 := HR9000_3
        have HC276_3 := HC9000_3
        have HR276_4 := HR9000_4
        have HC276_4 := HC9000_4
        have HR276_5 := HR9000_5
        have HC276_5 := HC9000_5
        refine start_ (n := 14) (S := fun w' => w'.cell? (ad0_.add ((a0_1).toNat * 7)) = some (.int .i64 ((rd_T39 l0_0 a0_1).f0)) ∧ w'.cell? ⟨(ad0_.add ((a0_1).toNat * 7)).block, (ad0_.add ((a0_1).toNat * 7)).off + 1, none⟩ = some (.string ((rd_T39 l0_0 a0_1).f1)) ∧ w'.cell? ⟨(ad0_.add ((a0_1).toNat * 7)).block, (ad0_.add ((a0_1).toNat * 7)).off + 2, none⟩ = some (.slice A9000_2 ((rd_T39 l0_0 a0_1).f2).length c9000_2) ∧ w'.cell? ⟨(ad0_.add ((a0_1).toNat * 7)).block, (ad0_.add ((a0_1).toNat * 7)).off + 3, none⟩ = some (.slice A9000_3 ((rd_T39 l0_0 a0_1).f3).length c9000_3) ∧ w'.cell? ⟨(ad0_.add ((a0_1).toNat * 7)).block, (ad0_.add ((a0_1).toNat * 7)).off + 4, none⟩ = some (.slice A9000_4 ((rd_T39 l0_0 a0_1).f4).length c9000_4) ∧ w'.cell? ⟨(ad0_.add ((a0_1).toNat * 7)).block, (ad0_.add ((a0_1).toNat * 7)).off + 5, none⟩ = some (.slice A9000_5 ((rd_T39 l0_0 a0_1).f5).length c9000_5) ∧ w'.cell? ⟨(ad0_.add ((a0_1).toNat * 7)).block, (ad0_.add ((a0_1).toNat * 7)).off + 6, none⟩ = some (.int .i64 ((rd_T39 l0_0 a0_1).f6)) ∧ w'.cell? (ad0_.add ((a0_1).toNat * 7)) = some (.int .i64 ((rd_T39 l0_0 a0_1).f0)) ∧ w'.cell? ⟨(ad0_.add ((a0_1).toNat * 7)).block, (ad0_.add ((a0_1).toNat * 7)).off + 1, none⟩ = some (.string ((rd_T39 l0_0 a0_1).f1)) ∧ w'.cell? ⟨(ad0_.add ((a0_1).toNat * 7)).block, (ad0_.add ((a0_1).toNat * 7)).off + 2, none⟩ = some (.slice A9000_2 ((rd_T39 l0_0 a0_1).f2).length c9000_2) ∧ w'.cell? ⟨(ad0_.add ((a0_1).toNat * 7)).block, (ad0_.add ((a0_1).toNat * 7)).off + 3, none⟩ = some (.slice A9000_3 ((rd_T39 l0_0 a0_1).f3).length c9000_3) ∧ w'.cell? ⟨(ad0_.add ((a0_1).toNat * 7)).block, (ad0_.add ((a0_1).toNat * 7)).off + 4, none⟩ = some (.slice A9000_4 ((rd_T39 l0_0 a0_1).f4).length c9000_4) ∧ w'.cell? ⟨(ad0_.add ((a0_1).toNat * 7)).block, (ad0_.add ((a0_1).toNat * 7)).off + 5, none⟩ = some (.slice A9000_5 ((rd_T39 l0_0 a0_1).f5).length c9000_5) ∧ w'.cell? ⟨(ad0_.add ((a0_1).toNat * 7)).block, (ad0_.add ((a0_1).toNat * 7)).off + 6, none⟩ = some (.int .i64 ((rd_T39 l0_0 a0_1).f6))) (ds := []) mkspec_l464_72 (by kernel_rfl) rfl rfl ⟨(cB HB.out hw274_0), (cB HB.out hw274_1), (cB HB.out hw274_2), (cB HB.out hw274_3), (cB HB.out hw274_4), (cB HB.out hw274_5), (cB HB.out hw274_6), (cB HB.out hw276_0), (cB HB.out hw276_1), (cB HB.out hw276_2), (cB HB.out hw276_3), (cB HB.out hw276_4), (cB HB.out hw276_5), (cB HB.out hw276_6)⟩ (fun hHeld => ?_); refine with_tabW spec_l24Text_at.tab11 spec_l24Text_at.bits11 (fun HT_ HW_ => ?_)
        generalize w.drew = w38 at HB HR274_2 HR274_3 HR274_4 HR274_5 HR276_2 HR276_3 HR276_4 HR276_5 hx274_0 hx274_1 hx274_2 hx274_3 hx274_4 hx274_5 hx274_6 hx276_0 hx276_1 hx276_2 hx276_3 hx276_4 hx276_5 hx276_6 hHeld ⊢
        refine pQ (i := 0) (N := some 84) mkspec_l464_73 ?_
        refine pQ (i := 1) (N := some 85) mkspec_l464_74 ?_
        refine pQ (i := 2) (N := some 86) mkspec_l464_75 ?_
        refine pQ (i := 7) (N := some 91) mkspec_l464_76 ?_
        refine pQ (i := 8) (N := some 92) mkspec_l464_77 ?_
        refine pQ (i := 9) (N := some 93) mkspec_l464_78 ?_
        refine tQ (i := 3) (N := some 87) mkspec_l464_80 rfl hHeld (Or.inl ⟨by rfl, by rintro w' ⟨s0, s1, s2, s3, s4, s5, s6, s7, s8, s9, s10, s11, s12, s13⟩; go_simp; with_reducible rfl⟩) ?_
        refine tQ (i := 10) (N := some 94) mkspec_l464_82 rfl hHeld (Or.inl ⟨by rfl, by rintro w' ⟨s0, s1, s2, s3, s4, s5, s6, s7, s8, s9, s10, s11, s12, s13⟩; go_simp; with_reducible rfl⟩) ?_
        refine one_ (i := 4) (N := some 88) mkspec_l464_84 rfl rfl (one_of HT_.out (by kernel_rfl)) (by decide) (fun K hK => ?_)
        refine goes_ Try.func56 (by kernel_rfl) rfl #[.slice A9000_3 ((rd_T39 l0_0 a0_1).f3).length c9000_3] (by rfl) rfl rfl gQ ?_
        with_reducible refine (spec_l24Words.calls k _ _ ((rd_T39 l0_0 a0_1).f3) t275 _ ?side1 ?side2 A33.out).mono ?_
        (case side1 => exact cQ HR274_3.out)
        (case side2 => exact HC274_3.out)
        rintro e w' ⟨rfl, ⟨nd, rfl⟩⟩
        refine ⟨_, rfl, ?_⟩
        refine hK.out _ _ ⟨(cB HB.out hw274_0), (cB HB.out hw274_1), (cB HB.out hw274_2), (cB HB.out hw274_3), (cB HB.out hw274_4), (cB HB.out hw274_5), (cB HB.out hw274_6), (cB HB.out hw276_0), (cB HB.out hw276_1), (cB HB.out hw276_2), (cB HB.out hw276_3), (cB HB.out hw276_4), (cB HB.out hw276_5), (cB HB.out hw276_6)⟩ (fun hHeld => ?_)
        clear hK K
        refine norm_ (a' := ?_) ?_ ?_
        rotate_left
        ·show Act.put _ (some 88) _ = _
         simp only [Act.put, sI, sZ, sS, i64_w, i32_w]
         rfl
        refine pQ (i := 5) (N := some 89) mkspec_l464_86 ?_
        refine pQ (i := 6) (N := some 90) mkspec_l464_88 ?_
        refine one_ (i := 11) (N := some 95) mkspec_l464_90 rfl rfl (one_of HT_.out (by kernel_rfl)) (by decide) (fun K hK => ?_)
        refine goes_ Try.func57 (by kernel_rfl) rfl #[.int .i64 ((rd_T39 l0_0 a0_1).f6)] (by rfl) rfl rfl gQ ?_
        with_reducible refine (spec_l01Dec.calls k ((rd_T39 l0_0 a0_1).f6) t277 _ A36.out).mono ?_
        rintro e w39 ⟨rfl, hb⟩
        refine ⟨_, rfl, ?_⟩
        have n0_ := aM (below_step bQ hb)
        clear HB
        have HB := n0_
        clear n0_
        (try clear hb)
        (try clear hb2)
        (try clear hk)
        (try clear hi)
        refine hK.out _ _ ⟨(cB HB.out hw274_0), (cB HB.out hw274_1), (cB HB.out hw274_2), (cB HB.out hw274_3), (cB HB.out hw274_4), (cB HB.out hw274_5), (cB HB.out hw274_6), (cB HB.out hw276_0), (cB HB.out hw276_1), (cB HB.out hw276_2), (cB HB.out hw276_3), (cB HB.out hw276_4), (cB HB.out hw276_5), (cB HB.out hw276_6)⟩ (fun hHeld => ?_)
        clear hK K
        refine norm_ (a' := ?_) ?_ ?_
        rotate_left
        ·show Act.put _ (some 95) _ = _
         simp only [Act.put, sI, sZ, sS, i64_w, i32_w]
         rfl
        refine pQ (i := 12) (N := some 96) mkspec_l464_92 ?_
        refine pQ (i := 13) (N := some 2) mkspec_l464_95 ?_
        refine done_ (done_of HT_.out (by kernel_rfl)) ?_
        try go_wp2
        go_ret
        exact ⟨eQ, bQ⟩
       ·rw [if_neg c37] at H
        exact absurd H (by simp)
      ·rw [if_neg c35] at H
       exact absurd H (by simp)
     ·rw [if_neg c34] at H
      exact absurd H (by simp)
    ·rw [if_neg c32] at H
     have c32b0 : (((rd_T39 l0_0 a0_1).f0) == 5) = false := beq_eq_false_iff_ne.mpr c32
     have c32b1 : (((rd_T39 l0_0 a0_1).f0) != 5) = true := bne_iff_ne.mpr c32
     by_cases c40 : ((rd_T39 l0_0 a0_1).f0) = 6
     ·rw [if_pos c40] at H
      have c40b0 : (((rd_T39 l0_0 a0_1).f0) == 6) = true := beq_iff_eq.mpr c40
      have c40b1 : (((rd_T39 l0_0 a0_1).f0) != 6) = false := bne_eq_false_iff_eq.mpr c40
      clear c40
      by_cases c41 : 0 < (((rd_T39 l0_0 a0_1).f3).length : Int)
      ·rw [if_pos c41] at H
       have c41b0 : decide (0 < (((rd_T39 l0_0 a0_1).f3).length : Int)) = true := decide_eq_true c41
       have c41b1 : decide (0 < ((rd_T39 l0_0 a0_1).f3).length) = true := decide_eq_true (by omega)
       clear c41
       by_cases c42 : 5 + (rdOf ByteArray.empty ((rd_T39 l0_0 a0_1).f3) 0).size ≤ 9223372036854775807
       ·rw [if_pos c42] at H
        have c42b0 := eq_true c42
        have c42b1 : decide (5 + (rdOf ByteArray.empty ((rd_T39 l0_0 a0_1).f3) 0).size ≤ 9223372036854775807) = true := decide_eq_true c42
        try have c42b2 : (9223372036854775807 < 5 + (rdOf ByteArray.empty ((rd_T39 l0_0 a0_1).f3) 0).size) = False := eq_false (Nat.not_lt.2 c42)
        by_cases c43 : ((⟨#[109, 97, 114, 107, 32]⟩ : ByteArray) ++ (rdOf ByteArray.empty ((rd_T39 l0_0 a0_1).f3) 0)).size + 4 ≤ 9223372036854775807
        ·rw [if_pos c43] at H
         have c43b0 := eq_true c43
         have c43b1 : decide (((⟨#[109, 97, 114, 107, 32]⟩ : ByteArray) ++ (rdOf ByteArray.empty ((rd_T39 l0_0 a0_1).f3) 0)).size + 4 ≤ 9223372036854775807) = true := decide_eq_true c43
         try have c43b2 : (9223372036854775807 < ((⟨#[109, 97, 114, 107, 32]⟩ : ByteArray) ++ (rdOf ByteArray.empty ((rd_T39 l0_0 a0_1).f3) 0)).size + 4) = False := eq_false (Nat.not_lt.2 c43)
         try have c43b3 : (9223372036854775807 < 5 + (rdOf ByteArray.empty ((rd_T39 l0_0 a0_1).f3) 0).size + 4) = False := eq_false (Nat.not_lt.2 (by have h_ := c43; simp only [ByteArray.size_append] at h_; exact h_))
         try (have c43b6 := c43b0; simp only [ByteArray.size_append, ByteArray.size_extract, Nat.min_self, Int.natCast_add] at c43b6)
         try (have c43b7 := c43b1; simp only [ByteArray.size_append, ByteArray.size_extract, Nat.min_self, Int.natCast_add] at c43b7)
         by_cases c44 : 1 < (((rd_T39 l0_0 a0_1).f3).length : Int)
         ·rw [if_pos c44] at H
          have c44b0 : decide (1 < (((rd_T39 l0_0 a0_1).f3).length : Int)) = true := decide_eq_true c44
          have c44b1 : decide (1 < ((rd_T39 l0_0 a0_1).f3).length) = true := decide_eq_true (by omega)
          clear c44
          by_cases c45 : (((⟨#[109, 97, 114, 107, 32]⟩ : ByteArray) ++ (rdOf ByteArray.empty ((rd_T39 l0_0 a0_1).f3) 0)) ++ (⟨#[32, 111, 110, 32]⟩ : ByteArray)).size + (rdOf ByteArray.empty ((rd_T39 l0_0 a0_1).f3) 1).size ≤ 9223372036854775807
          ·rw [if_pos c45] at H
           have c45b0 := eq_true c45
           have c45b1 : decide ((((⟨#[109, 97, 114, 107, 32]⟩ : ByteArray) ++ (rdOf ByteArray.empty ((rd_T39 l0_0 a0_1).f3) 0)) ++ (⟨#[32, 111, 110, 32]⟩ : ByteArray)).size + (rdOf ByteArray.empty ((rd_T39 l0_0 a0_1).f3) 1).size ≤ 9223372036854775807) = true := decide_eq_true c45
           try have c45b2 : (9223372036854775807 < (((⟨#[109, 97, 114, 107, 32]⟩ : ByteArray) ++ (rdOf ByteArray.empty ((rd_T39 l0_0 a0_1).f3) 0)) ++ (⟨#[32, 111, 110, 32]⟩ : ByteArray)).size + (rdOf ByteArray.empty ((rd_T39 l0_0 a0_1).f3) 1).size) = False := eq_false (Nat.not_lt.2 c45)
           try have c45b3 : (9223372036854775807 < 5 + (rdOf ByteArray.empty ((rd_T39 l0_0 a0_1).f3) 0).size + 4 + (rdOf ByteArray.empty ((rd_T39 l0_0 a0_1).f3) 1).size) = False := eq_false (Nat.not_lt.2 (by have h_ := c45; simp only [ByteArray.size_append] at h_; exact h_))
           try (have c45b6 := c45b0; simp only [ByteArray.size_append, ByteArray.size_extract, Nat.min_self, Int.natCast_add] at c45b6)
           try (have c45b7 := c45b1; simp only [ByteArray.size_append, ByteArray.size_extract, Nat.min_self, Int.natCast_add] at c45b7)
           by_cases c46 : ((((⟨#[109, 97, 114, 107, 32]⟩ : ByteArray) ++ (rdOf ByteArray.empty ((rd_T39 l0_0 a0_1).f3) 0)) ++ (⟨#[32, 111, 110, 32]⟩ : ByteArray)) ++ (rdOf ByteArray.empty ((rd_T39 l0_0 a0_1).f3) 1)).size + 4 ≤ 9223372036854775807
           ·rw [if_pos c46] at H
            have c46b0 := eq_true c46
            have c46b1 : decide (((((⟨#[109, 97, 114, 107, 32]⟩ : ByteArray) ++ (rdOf ByteArray.empty ((rd_T39 l0_0 a0_1).f3) 0)) ++ (⟨#[32, 111, 110, 32]⟩ : ByteArray)) ++ (rdOf ByteArray.empty ((rd_T39 l0_0 a0_1).f3) 1)).size + 4 ≤ 9223372036854775807) = true := decide_eq_true c46
            try have c46b2 : (9223372036854775807 < ((((⟨#[109, 97, 114, 107, 32]⟩ : ByteArray) ++ (rdOf ByteArray.empty ((rd_T39 l0_0 a0_1).f3) 0)) ++ (⟨#[32, 111, 110, 32]⟩ : ByteArray)) ++ (rdOf ByteArray.empty ((rd_T39 l0_0 a0_1).f3) 1)).size + 4) = False := eq_false (Nat.not_lt.2 c46)
            try have c46b3 : (9223372036854775807 < 5 + (rdOf ByteArray.empty ((rd_T39 l0_0 a0_1).f3) 0).size + 4 + (rdOf ByteArray.empty ((rd_T39 l0_0 a0_1).f3) 1).size + 4) = False := eq_false (Nat.not_lt.2 (by have h_ := c46; simp only [ByteArray.size_append] at h_; exact h_))
            try (have c46b6 := c46b0; simp only [ByteArray.size_append, ByteArray.size_extract, Nat.min_self, Int.natCast_add] at c46b6)
            try (have c46b7 := c46b1; simp only [ByteArray.size_append, ByteArray.size_extract, Nat.min_self, Int.natCast_add] at c46b7)
            by_cases c47 : (((((⟨#[109, 97, 114, 107, 32]⟩ : ByteArray) ++ (rdOf ByteArray.empty ((rd_T39 l0_0 a0_1).f3) 0)) ++ (⟨#[32, 111, 110, 32]⟩ : ByteArray)) ++ (rdOf ByteArray.empty ((rd_T39 l0_0 a0_1).f3) 1)) ++ (⟨#[32, 97, 116, 32]⟩ : ByteArray)).size + ((rd_T39 l0_0 a0_1).f1).size ≤ 9223372036854775807
            ·rw [if_pos c47] at H
             have c47b0 := eq_true c47
             have c47b1 : decide ((((((⟨#[109, 97, 114, 107, 32]⟩ : ByteArray) ++ (rdOf ByteArray.empty ((rd_T39 l0_0 a0_1).f3) 0)) ++ (⟨#[32, 111, 110, 32]⟩ : ByteArray)) ++ (rdOf ByteArray.empty ((rd_T39 l0_0 a0_1).f3) 1)) ++ (⟨#[32, 97, 116, 32]⟩ : ByteArray)).size + ((rd_T39 l0_0 a0_1).f1).size ≤ 9223372036854775807) = true := decide_eq_true c47
             try have c47b2 : (9223372036854775807 < (((((⟨#[109, 97, 114, 107, 32]⟩ : ByteArray) ++ (rdOf ByteArray.empty ((rd_T39 l0_0 a0_1).f3) 0)) ++ (⟨#[32, 111, 110, 32]⟩ : ByteArray)) ++ (rdOf ByteArray.empty ((rd_T39 l0_0 a0_1).f3) 1)) ++ (⟨#[32, 97, 116, 32]⟩ : ByteArray)).size + ((rd_T39 l0_0 a0_1).f1).size) = False := eq_false (Nat.not_lt.2 c47)
             try have c47b3 : (9223372036854775807 < 5 + (rdOf ByteArray.empty ((rd_T39 l0_0 a0_1).f3) 0).size + 4 + (rdOf ByteArray.empty ((rd_T39 l0_0 a0_1).f3) 1).size + 4 + ((rd_T39 l0_0 a0_1).f1).size) = False := eq_false (Nat.not_lt.2 (by have h_ := c47; simp only [ByteArray.size_append] at h_; exact h_))
             try (have c47b6 := c47b0; simp only [ByteArray.size_append, ByteArray.size_extract, Nat.min_self, Int.natCast_add] at c47b6)
             try (have c47b7 := c47b1; simp only [ByteArray.size_append, ByteArray.size_extract, Nat.min_self, Int.natCast_add] at c47b7)
             obtain rfl := Option.some.inj H
             have hx255_0 := HX9000_0.out
             have hx255_1 := HX9000_1.out
             have hx255_2 := HX9000_2.out
             have hx255_3 := HX9000_3.out
             have hx255_4 := HX9000_4.out
             have hx255_5 := HX9000_5.out
             have hx255_6 := HX9000_6.out
             have HR255_2 := HR9000_2
             have HC255_2 := HC9000_2
             have HR255_3 := HR9000_3
             have HC255_3 := HC9000_3
             have HR255_4 := HR9000_4
             have HC255_4 := HC9000_4
             have HR255_5 := HR9000_5
             have HC255_5 := HC9000_5
             go_enter Try.func34, Try.ntmps34
             try go_wp2
             have n0_ := aM (below_drew1 HB.out)
             clear HB
             have HB := n0_
             clear n0_
             have hx278_0 := HX9000_0.out
             have hx278_1 := HX9000_1.out
             have hx278_2 := HX9000_2.out
             have hx278_3 := HX9000_3.out
             have hx278_4 := HX9000_4.out
             have hx278_5 := HX9000_5.out
             have hx278_6 := HX9000_6.out
             have hw278_6 := hx278_6
             have hw278_5 := hx278_5
             have hw278_4 := hx278_4
             have hw278_3 := hx278_3
             have hw278_2 := hx278_2
             have hw278_1 := hx278_1
             have hw278_0 := hx278_0
             replace hx278_0 := cB HB.out hx278_0
             replace hx278_1 := cB HB.out hx278_1
             replace hx278_2 := cB HB.out hx278_2
             replace hx278_3 := cB HB.out hx278_3
             replace hx278_4 := cB HB.out hx278_4
             replace hx278_5 := cB HB.out hx278_5
             replace hx278_6 := cB HB.out hx278_6
             have HR278_2 := HR9000_2
             have HC278_2 := HC9000_2
             have HR278_3 := HR9000_3
             have HC278_3 := HC9000_3
             have HR278_4 := HR9000_4
             have HC278_4 := HC9000_4
             have HR278_5 := HR9000_5
             have HC278_5 := HC9000_5
             have p279 : 0 ≤ (0 : Int) := (by omega)
             have q279 : 0 < (((rd_T39 l0_0 a0_1).f3).length : Int) := dA
             obtain ⟨ad279, e279, hx279_0⟩ := Kd.at_string HR278_3.out 0 p279 q279
             have hw279_0 := hx279_0
             (try rw [show ((0 : Int)).toNat = 0 from rfl] at hw279_0)
             (try rw [show 0 * 1 = 0 from rfl] at hw279_0)
             (try rw [Addr.add_zero'] at hw279_0)
             cases e279
             have qi279 : (0 < ((rd_T39 l0_0 a0_1).f3).length) = True := eq_true (by omega)
             (try rw [show ((0 : Int)).toNat = 0 from rfl] at hx279_0)
             (try rw [Addr.add_zero'] at hx279_0)
             replace hx279_0 := cB HB.out hx279_0
             replace p279 := eq_true p279
             replace q279 := eq_true q279
             have hx280_0 := HX9000_0.out
             have hx280_1 := HX9000_1.out
             have hx280_2 := HX9000_2.out
             have hx280_3 := HX9000_3.out
             have hx280_4 := HX9000_4.out
             have hx280_5 := HX9000_5.out
             have hx280_6 := HX9000_6.out
             have hw280_6 := hx280_6
             have hw280_5 := hx280_5
             have hw280_4 := hx280_4
             have hw280_3 := hx280_3
             have hw280_2 := hx280_2
             have hw280_1 := hx280_1
             have hw280_0 := hx280_0
             replace hx280_0 := cB HB.out hx280_0
             replace hx280_1 := cB HB.out hx280_1
             replace hx280_2 := cB HB.out hx280_2
             replace hx280_3 := cB HB.out hx280_3
             replace hx280_4 := cB HB.out hx280_4
             replace hx280_5 := cB HB.out hx280_5
             replace hx280_6 := cB HB.out hx280_6
             have HR280_2 := HR9000_2
             have HC280_2 := HC9000_2
             have HR280_3 := HR9000_3
             have HC280_3 := HC9000_3
             have HR280_4 := HR9000_4
             have HC280_4 := HC9000_4
             have HR280_5 := HR9000_5
             have HC280_5 := HC9000_5
             have p281 : 0 ≤ (1 : Int) := (by omega)
             have q281 : 1 < (((rd_T39 l0_0 a0_1).f3).length : Int) := dA
             obtain ⟨ad281, e281, hx281_0⟩ := Kd.at_string HR280_3.out 1 p281 q281
             have hw281_0 := hx281_0
             (try rw [show ((1 : Int)).toNat = 1 from rfl] at hw281_0)
             (try rw [show 1 * 1 = 1 from rfl] at hw281_0)
             (try simp only [Nat.reduceMul, Nat.reduceEqDiff, Go.Addr.add, ↓reduceIte] at hw281_0)
             obtain rfl : ad279 = ad281 := (by injection e281)
             (try simp only [show (1 : Int).toNat = 1 from rfl, Nat.reduceMul, Nat.reduceEqDiff, Go.Addr.add, ↓reduceIte] at hx281_0)
             have qi281 : (1 < ((rd_T39 l0_0 a0_1).f3).length) = True := eq_true (by omega)
             (try rw [show ((1 : Int)).toNat = 1 from rfl] at hx281_0)
             replace hx281_0 := cB HB.out hx281_0
             replace p281 := eq_true p281
             replace q281 := eq_true q281
             have hx282_0 := HX9000_0.out
             have hx282_1 := HX9000_1.out
             have hx282_2 := HX9000_2.out
             have hx282_3 := HX9000_3.out
             have hx282_4 := HX9000_4.out
             have hx282_5 := HX9000_5.out
             have hx282_6 := HX9000_6.out
             have hw282_6 := hx282_6
             have hw282_5 := hx282_5
             have hw282_4 := hx282_4
             have hw282_3 := hx282_3
             have hw282_2 := hx282_2
             have hw282_1 := hx282_1
             have hw282_0 := hx282_0
             replace hx282_0 := cB HB.out hx282_0
             replace hx282_1 := cB HB.out hx282_1
             replace hx282_2 := cB HB.out hx282_2
             replace hx282_3 := cB HB.out hx282_3
             replace hx282_4 := cB HB.out hx282_4
             replace hx282_5 := cB HB.out hx282_5
             replace hx282_6 := cB HB.out hx282_6
             have HR282_2 := HR9000_2
             have HC282_2 := HC9000_2
             have HR282_3 := HR9000_3
             have HC282_3 := HC9000_3
             have HR282_4 := HR9000_4
             have HC282_4 := HC9000_4
             have HR282_5 := HR9000_5
             have HC282_5 := HC9000_5
             refine start_ (n := 22) (S := fun w' => w'.cell? (ad0_.add ((a0_1).toNat * 7)) = some (.int .i64 ((rd_T39 l0_0 a0_1).f0)) ∧ w'.cell? ⟨(ad0_.add ((a0_1).toNat * 7)).block, (ad0_.add ((a0_1).toNat * 7)).off + 1, none⟩ = some (.string ((rd_T39 l0_0 a0_1).f1)) ∧ w'.cell? ⟨(ad0_.add ((a0_1).toNat * 7)).block, (ad0_.add ((a0_1).toNat * 7)).off + 2, none⟩ = some (.slice A9000_2 ((rd_T39 l0_0 a0_1).f2).length c9000_2) ∧ w'.cell? ⟨(ad0_.add ((a0_1).toNat * 7)).block, (ad0_.add ((a0_1).toNat * 7)).off + 3, none⟩ = some (.slice (some ad279) ((rd_T39 l0_0 a0_1).f3).length c9000_3) ∧ w'.cell? ⟨(ad0_.add ((a0_1).toNat * 7)).block, (ad0_.add ((a0_1).toNat * 7)).off + 4, none⟩ = some (.slice A9000_4 ((rd_T39 l0_0 a0_1).f4).length c9000_4) ∧ w'.cell? ⟨(ad0_.add ((a0_1).toNat * 7)).block, (ad0_.add ((a0_1).toNat * 7)).off + 5, none⟩ = some (.slice A9000_5 ((rd_T39 l0_0 a0_1).f5).length c9000_5) ∧ w'.cell? ⟨(ad0_.add ((a0_1).toNat * 7)).block, (ad0_.add ((a0_1).toNat * 7)).off + 6, none⟩ = some (.int .i64 ((rd_T39 l0_0 a0_1).f6)) ∧ w'.cell? ad279 = some (.string (rdOf ByteArray.empty ((rd_T39 l0_0 a0_1).f3) 0)) ∧ w'.cell? (ad0_.add ((a0_1).toNat * 7)) = some (.int .i64 ((rd_T39 l0_0 a0_1).f0)) ∧ w'.cell? ⟨(ad0_.add ((a0_1).toNat * 7)).block, (ad0_.add ((a0_1).toNat * 7)).off + 1, none⟩ = some (.string ((rd_T39 l0_0 a0_1).f1)) ∧ w'.cell? ⟨(ad0_.add ((a0_1).toNat * 7)).block, (ad0_.add ((a0_1).toNat * 7)).off + 2, none⟩ = some (.slice A9000_2 ((rd_T39 l0_0 a0_1).f2).length c9000_2) ∧ w'.cell? ⟨(ad0_.add ((a0_1).toNat * 7)).block, (ad0_.add ((a0_1).toNat * 7)).off + 3, none⟩ = some (.slice (some ad279) ((rd_T39 l0_0 a0_1).f3).length c9000_3) ∧ w'.cell? ⟨(ad0_.add ((a0_1).toNat * 7)).block, (ad0_.add ((a0_1).toNat * 7)).off + 4, none⟩ = some (.slice A9000_4 ((rd_T39 l0_0 a0_1).f4).length c9000_4) ∧ w'.cell? ⟨(ad0_.add ((a0_1).toNat * 7)).block, (ad0_.add ((a0_1).toNat * 7)).off + 5, none⟩ = some (.slice A9000_5 ((rd_T39 l0_0 a0_1).f5).length c9000_5) ∧ w'.cell? ⟨(ad0_.add ((a0_1).toNat * 7)).block, (ad0_.add ((a0_1).toNat * 7)).off + 6, none⟩ = some (.int .i64 ((rd_T39 l0_0 a0_1).f6)) ∧ w'.cell? ⟨ad279.block, ad279.off + 1, none⟩ = some (.string (rdOf ByteArray.empty ((rd_T39 l0_0 a0_1).f3) 1)) ∧ w'.cell? (ad0_.add ((a0_1).toNat * 7)) = some (.int .i64 ((rd_T39 l0_0 a0_1).f0)) ∧ w'.cell? ⟨(ad0_.add ((a0_1).toNat * 7)).block, (ad0_.add ((a0_1).toNat * 7)).off + 1, none⟩ = some (.string ((rd_T39 l0_0 a0_1).f1)) ∧ w'.cell? ⟨(ad0_.add ((a0_1).toNat * 7)).block, (ad0_.add ((a0_1).toNat * 7)).off + 2, none⟩ = some (.slice A9000_2 ((rd_T39 l0_0 a0_1).f2).length c9000_2) ∧ w'.cell? ⟨(ad0_.add ((a0_1).toNat * 7)).block, (ad0_.add ((a0_1).toNat * 7)).off + 3, none⟩ = some (.slice (some ad279) ((rd_T39 l0_0 a0_1).f3).length c9000_3) ∧ w'.cell? ⟨(ad0_.add ((a0_1).toNat * 7)).block, (ad0_.add ((a0_1).toNat * 7)).off + 4, none⟩ = some (.slice A9000_4 ((rd_T39 l0_0 a0_1).f4).length c9000_4) ∧ w'.cell? ⟨(ad0_.add ((a0_1).toNat * 7)).block, (ad0_.add ((a0_1).toNat * 7)).off + 5, none⟩ = some (.slice A9000_5 ((rd_T39 l0_0 a0_1).f5).length c9000_5) ∧ w'.cell? ⟨(ad0_.add ((a0_1).toNat * 7)).block, (ad0_.add ((a0_1).toNat * 7)).off + 6, none⟩ = some (.int .i64 ((rd_T39 l0_0 a0_1).f6))) (ds := []) mkspec_l464_29 (by kernel_rfl) rfl rfl ⟨(cB HB.out hw278_0), (cB HB.out hw278_1), (cB HB.out hw278_2), (cB HB.out hw278_3), (cB HB.out hw278_4), (cB HB.out hw278_5), (cB HB.out hw278_6), (cB HB.out hw279_0), (cB HB.out hw280_0), (cB HB.out hw280_1), (cB HB.out hw280_2), (cB HB.out hw280_3), (cB HB.out hw280_4), (cB HB.out hw280_5), (cB HB.out hw280_6), (cB HB.out hw281_0), (cB HB.out hw282_0), (cB HB.out hw282_1), (cB HB.out hw282_2), (cB HB.out hw282_3), (cB HB.out hw282_4), (cB HB.out hw282_5), (cB HB.out hw282_6)⟩ (fun hHeld => ?_); refine with_tabW spec_l24Text_at.tab13 spec_l24Text_at.bits13 (fun HT_ HW_ => ?_)
             generalize w.drew = w48 at HB HR278_2 HR278_3 HR278_4 HR278_5 HR280_2 HR280_3 HR280_4 HR280_5 HR282_2 HR282_3 HR282_4 HR282_5 hx278_0 hx278_1 hx278_2 hx278_3 hx278_4 hx278_5 hx278_6 hx279_0 hx280_0 hx280_1 hx280_2 hx280_3 hx280_4 hx280_5 hx280_6 hx281_0 hx282_0 hx282_1 hx282_2 hx282_3 hx282_4 hx282_5 hx282_6 hHeld ⊢
             refine pQ (i := 0) (N := some 99) mkspec_l464_30 ?_
             refine pQ (i := 1) (N := some 100) mkspec_l464_31 ?_
             refine pQ (i := 2) (N := some 101) mkspec_l464_32 ?_
             refine pQ (i := 8) (N := some 107) mkspec_l464_33 ?_
             refine pQ (i := 9) (N := some 108) mkspec_l464_34 ?_
             refine pQ (i := 10) (N := some 109) mkspec_l464_35 ?_
             refine pQ (i := 16) (N := some 115) mkspec_l464_36 ?_
             refine pQ (i := 17) (N := some 116) mkspec_l464_37 ?_
             refine pQ (i := 18) (N := some 117) mkspec_l464_38 ?_
             refine tQ (i := 3) (N := some 102) mkspec_l464_39 rfl hHeld (Or.inl ⟨by rfl, by rintro w' ⟨s0, s1, s2, s3, s4, s5, s6, s7, s8, s9, s10, s11, s12, s13, s14, s15, s16, s17, s18, s19, s20, s21, s22⟩; go_simp; with_reducible rfl⟩) ?_
             refine pQ (i := 4) (N := some 103) mkspec_l464_40 ?_
             refine tQ (i := 5) (N := some 104) mkspec_l464_41 rfl hHeld (Or.inl ⟨by rfl, by rintro w' ⟨s0, s1, s2, s3, s4, s5, s6, s7, s8, s9, s10, s11, s12, s13, s14, s15, s16, s17, s18, s19, s20, s21, s22⟩; go_simp; with_reducible rfl⟩) ?_
             refine pQ (i := 6) (N := some 105) mkspec_l464_42 ?_
             refine pQ (i := 7) (N := some 106) mkspec_l464_43 ?_
             refine tQ (i := 11) (N := some 110) mkspec_l464_44 rfl hHeld (Or.inl ⟨by rfl, by rintro w' ⟨s0, s1, s2, s3, s4, s5, s6, s7, s8, s9, s10, s11, s12, s13, s14, s15, s16, s17, s18, s19, s20, s21, s22⟩; go_simp; with_reducible rfl⟩) ?_
             refine pQ (i := 12) (N := some 111) mkspec_l464_45 ?_
             refine tQ (i := 13) (N := some 112) mkspec_l464_46 rfl hHeld (Or.inl ⟨by rfl, by rintro w' ⟨s0, s1, s2, s3, s4, s5, s6, s7, s8, s9, s10, s11, s12, s13, s14, s15, s16, s17, s18, s19, s20, s21, s22⟩; go_simp; with_reducible rfl⟩) ?_
             refine pQ (i := 14) (N := some 113) mkspec_l464_47 ?_
             refine pQ (i := 15) (N := some 114) mkspec_l464_48 ?_
             refine tQ (i := 19) (N := some 118) mkspec_l464_49 rfl hHeld (Or.inl ⟨by rfl, by rintro w' ⟨s0, s1, s2, s3, s4, s5, s6, s7, s8, s9, s10, s11, s12, s13, s14, s15, s16, s17, s18, s19, s20, s21, s22⟩; go_simp; with_reducible rfl⟩) ?_
             refine pQ (i := 20) (N := some 119) mkspec_l464_50 ?_
             refine pQ (i := 21) (N := some 2) mkspec_l464_52 ?_
             refine done_ (done_of HT_.out (by kernel_rfl)) ?_
             try go_wp2
             go_ret
             exact ⟨eQ, bQ⟩
            ·rw [if_neg c47] at H
             exact absurd H (by simp)
           ·rw [if_neg c46] at H
            exact absurd H (by simp)
          ·rw [if_neg c45] at H
           exact absurd H (by simp)
         ·rw [if_neg c44] at H
          exact absurd H (by simp)
        ·rw [if_neg c43] at H
         exact absurd H (by simp)
       ·rw [if_neg c42] at H
        exact absurd H (by simp)
      ·rw [if_neg c41] at H
       exact absurd H (by simp)
     ·rw [if_neg c40] at H
      have c40b0 : (((rd_T39 l0_0 a0_1).f0) == 6) = false := beq_eq_false_iff_ne.mpr c40
      have c40b1 : (((rd_T39 l0_0 a0_1).f0) != 6) = true := bne_iff_ne.mpr c40
      by_cases c49 : ((rd_T39 l0_0 a0_1).f0) = 7
      ·rw [if_pos c49] at H
       have c49b0 : (((rd_T39 l0_0 a0_1).f0) == 7) = true := beq_iff_eq.mpr c49
       have c49b1 : (((rd_T39 l0_0 a0_1).f0) != 7) = false := bne_eq_false_iff_eq.mpr c49
       clear c49
       by_cases c50 : 5 + ((rd_T39 l0_0 a0_1).f1).size ≤ 9223372036854775807
       ·rw [if_pos c50] at H
        have c50b0 := eq_true c50
        have c50b1 : decide (5 + ((rd_T39 l0_0 a0_1).f1).size ≤ 9223372036854775807) = true := decide_eq_true c50
        try have c50b2 : (9223372036854775807 < 5 + ((rd_T39 l0_0 a0_1).f1).size) = False := eq_false (Nat.not_lt.2 c50)
        by_cases c51 : ((⟨#[106, 111, 105, 110, 32]⟩ : ByteArray) ++ ((rd_T39 l0_0 a0_1).f1)).size + 1 ≤ 9223372036854775807
        ·rw [if_pos c51] at H
         have c51b0 := eq_true c51
         have c51b1 : decide (((⟨#[106, 111, 105, 110, 32]⟩ : ByteArray) ++ ((rd_T39 l0_0 a0_1).f1)).size + 1 ≤ 9223372036854775807) = true := decide_eq_true c51
         try have c51b2 : (9223372036854775807 < ((⟨#[106, 111, 105, 110, 32]⟩ : ByteArray) ++ ((rd_T39 l0_0 a0_1).f1)).size + 1) = False := eq_false (Nat.not_lt.2 c51)
         try have c51b3 : (9223372036854775807 < 5 + ((rd_T39 l0_0 a0_1).f1).size + 1) = False := eq_false (Nat.not_lt.2 (by have h_ := c51; simp only [ByteArray.size_append] at h_; exact h_))
         try (have c51b6 := c51b0; simp only [ByteArray.size_append, ByteArray.size_extract, Nat.min_self, Int.natCast_add] at c51b6)
         try (have c51b7 := c51b1; simp only [ByteArray.size_append, ByteArray.size_extract, Nat.min_self, Int.natCast_add] at c51b7)
         replace H := Option.bind_eq_some_iff.mp H
         obtain ⟨t285, A520, H⟩ := H
         replace H : (if (((⟨#[106, 111, 105, 110, 32]⟩ : ByteArray) ++ ((rd_T39 l0_0 a0_1).f1)) ++ (⟨#[32]⟩ : ByteArray)).size + t285.size ≤ 9223372036854775807 then ((spec_l24Words.f k ((rd_T39 l0_0 a0_1).f5)).bind fun t287 => (if ((((⟨#[106, 111, 105, 110, 32]⟩ : ByteArray) ++ ((rd_T39 l0_0 a0_1).f1)) ++ (⟨#[32]⟩ : ByteArray)) ++ t285).size + t287.size ≤ 9223372036854775807 then (some (((((⟨#[106, 111, 105, 110, 32]⟩ : ByteArray) ++ ((rd_T39 l0_0 a0_1).f1)) ++ (⟨#[32]⟩ : ByteArray)) ++ t285) ++ t287)) else (none))) else (none)) = some r := H
         have A52 := aM A520
         clear A520
         by_cases c53 : (((⟨#[106, 111, 105, 110, 32]⟩ : ByteArray) ++ ((rd_T39 l0_0 a0_1).f1)) ++ (⟨#[32]⟩ : ByteArray)).size + t285.size ≤ 9223372036854775807
         ·rw [if_pos c53] at H
          have c53b0 := eq_true c53
          have c53b1 : decide ((((⟨#[106, 111, 105, 110, 32]⟩ : ByteArray) ++ ((rd_T39 l0_0 a0_1).f1)) ++ (⟨#[32]⟩ : ByteArray)).size + t285.size ≤ 9223372036854775807) = true := decide_eq_true c53
          try have c53b2 : (9223372036854775807 < (((⟨#[106, 111, 105, 110, 32]⟩ : ByteArray) ++ ((rd_T39 l0_0 a0_1).f1)) ++ (⟨#[32]⟩ : ByteArray)).size + t285.size) = False := eq_false (Nat.not_lt.2 c53)
          try have c53b3 : (9223372036854775807 < 5 + ((rd_T39 l0_0 a0_1).f1).size + 1 + t285.size) = False := eq_false (Nat.not_lt.2 (by have h_ := c53; simp only [ByteArray.size_append] at h_; exact h_))
          try (have c53b6 := c53b0; simp only [ByteArray.size_append, ByteArray.size_extract, Nat.min_self, Int.natCast_add] at c53b6)
          try (have c53b7 := c53b1; simp only [ByteArray.size_append, ByteArray.size_extract, Nat.min_self, Int.natCast_add] at c53b7)
          replace H := Option.bind_eq_some_iff.mp H
          obtain ⟨t287, A540, H⟩ := H
          replace H : (if ((((⟨#[106, 111, 105, 110, 32]⟩ : ByteArray) ++ ((rd_T39 l0_0 a0_1).f1)) ++ (⟨#[32]⟩ : ByteArray)) ++ t285).size + t287.size ≤ 9223372036854775807 then (some (((((⟨#[106, 111, 105, 110, 32]⟩ : ByteArray) ++ ((rd_T39 l0_0 a0_1).f1)) ++ (⟨#[32]⟩ : ByteArray)) ++ t285) ++ t287)) else (none)) = some r := H
          have A54 := aM A540
          clear A540
          by_cases c55 : ((((⟨#[106, 111, 105, 110, 32]⟩ : ByteArray) ++ ((rd_T39 l0_0 a0_1).f1)) ++ (⟨#[32]⟩ : ByteArray)) ++ t285).size + t287.size ≤ 9223372036854775807
          ·rw [if_pos c55] at H
           have c55b0 := eq_true c55
           have c55b1 : decide (((((⟨#[106, 111, 105, 110, 32]⟩ : ByteArray) ++ ((rd_T39 l0_0 a0_1).f1)) ++ (⟨#[32]⟩ : ByteArray)) ++ t285).size + t287.size ≤ 9223372036854775807) = true := decide_eq_true c55
           try have c55b2 : (9223372036854775807 < ((((⟨#[106, 111, 105, 110, 32]⟩ : ByteArray) ++ ((rd_T39 l0_0 a0_1).f1)) ++ (⟨#[32]⟩ : ByteArray)) ++ t285).size + t287.size) = False := eq_false (Nat.not_lt.2 c55)
           try have c55b3 : (9223372036854775807 < 5 + ((rd_T39 l0_0 a0_1).f1).size + 1 + t285.size + t287.size) = False := eq_false (Nat.not_lt.2 (by have h_ := c55; simp only [ByteArray.size_append] at h_; exact h_))
           try (have c55b6 := c55b0; simp only [ByteArray.size_append, ByteArray.size_extract, Nat.min_self, Int.natCast_add] at c55b6)
           try (have c55b7 := c55b1; simp only [ByteArray.size_append, ByteArray.size_extract, Nat.min_self, Int.natCast_add] at c55b7)
           obtain rfl := Option.some.inj H
           have hx255_0 := HX9000_0.out
           have hx255_1 := HX9000_1.out
           have hx255_2 := HX9000_2.out
           have hx255_3 := HX9000_3.out
           have hx255_4 := HX9000_4.out
           have hx255_5 := HX9000_5.out
           have hx255_6 := HX9000_6.out
           have HR255_2 := HR9000_2
           have HC255_2 := HC9000_2
           have HR255_3 := HR9000_3
           have HC255_3 := HC9000_3
           have HR255_4 := HR9000_4
           have HC255_4 := HC9000_4
           have HR255_5 := HR9000_5
           have HC255_5 := HC9000_5
           go_enter Try.func34, Try.ntmps34
           try go_wp2
           have n0_ := aM (below_drew1 HB.out)
           clear HB
           have HB := n0_
           clear n0_
           have hx283_0 := HX9000_0.out
           have hx283_1 := HX9000_1.out
           have hx283_2 := HX9000_2.out
           have hx283_3 := HX9000_3.out
           have hx283_4 := HX9000_4.out
           have hx283_5 := HX9000_5.out
           have hx283_6 := HX9000_6.out
           have hw283_6 := hx283_6
           have hw283_5 := hx283_5
           have hw283_4 := hx283_4
           have hw283_3 := hx283_3
           have hw283_2 := hx283_2
           have hw283_1 := hx283_1
           have hw283_0 := hx283_0
           replace hx283_0 := cB HB.out hx283_0
           replace hx283_1 := cB HB.out hx283_1
           replace hx283_2 := cB HB.out hx283_2
           replace hx283_3 := cB HB.out hx283_3
           replace hx283_4 := cB HB.out hx283_4
           replace hx283_5 := cB HB.out hx283_5
           replace hx283_6 := cB HB.out hx283_6
           have HR283_2 := HR9000_2
           have HC283_2 := HC9000_2
           have HR283_3 := HR9000_3
           have HC283_3 := HC9000_3
           have HR283_4 := HR9000_4
           have HC283_4 := HC9000_4
           have HR283_5 := HR9000_5
           have HC283_5 := HC9000_5
           have hx284_0 := HX9000_0.out
           have hx284_1 := HX9000_1.out
           have hx284_2 := HX9000_2.out
           have hx284_3 := HX9000_3.out
           have hx284_4 := HX9000_4.out
           have hx284_5 := HX9000_5.out
           have hx284_6 := HX9000_6.out
           have hw284_6 := hx284_6
           have hw284_5 := hx284_5
           have hw284_4 := hx284_4
           have hw284_3 := hx284_3
           have hw284_2 := hx284_2
           have hw284_1 := hx284_1
           have hw284_0 := hx284_0
           replace hx284_0 := cB HB.out hx284_0
           replace hx284_1 := cB HB.out hx284_1
           replace hx284_2 := cB HB.out hx284_2
           replace hx284_3 := cB HB.out hx284_3
           replace hx284_4 := cB HB.out hx284_4
           replace hx284_5 := cB HB.out hx284_5
           replace hx284_6 := cB HB.out hx284_6
           have HR284_2 := HR9000_2
           have HC284_2 := HC9000_2
           have HR284_3 := HR9000_3
           have HC284_3 := HC9000_3
           have HR284_4 := HR9000_4
           have HC284_4 := HC9000_4
           have HR284_5 := HR9000_5
           have HC284_5 := HC9000_5
           have hx286_0 := HX9000_0.out
           have hx286_1 := HX9000_1.out
           have hx286_2 := HX9000_2.out
           have hx286_3 := HX9000_3.out
           have hx286_4 := HX9000_4.out
           have hx286_5 := HX9000_5.out
           have hx286_6 := HX9000_6.out
           have hw286_6 := hx286_6
           have hw286_5 := hx286_5
           have hw286_4 := hx286_4
           have hw286_3 := hx286_3
           have hw286_2 := hx286_2
           have hw286_1 := hx286_1
           have hw286_0 := hx286_0
           replace hx286_0 := cB HB.out hx286_0
           replace hx286_1 := cB HB.out hx286_1
           replace hx286_2 := cB HB.out hx286_2
           replace hx286_3 := cB HB.out hx286_3
           replace hx286_4 := cB HB.out hx286_4
           replace hx286_5 := cB HB.out hx286_5
           replace hx286_6 := cB HB.out hx286_6
           have HR286_2 := HR9000_2
           have HC286_2 := HC9000_2
           have HR286_3 := HR9000_3
           have HC286_3 := HC9000_3
           have HR286_4 := HR9000_4
           have HC286_4 := HC9000_4
           have HR286_5 := HR9000_5
           have HC286_5 := HC9000_5
           refine start_ (n := 19) (S := fun w' => w'.cell? (ad0_.add ((a0_1).toNat * 7)) = some (.int .i64 ((rd_T39 l0_0 a0_1).f0)) ∧ w'.cell? ⟨(ad0_.add ((a0_1).toNat * 7)).block, (ad0_.add ((a0_1).toNat * 7)).off + 1, none⟩ = some (.string ((rd_T39 l0_0 a0_1).f1)) ∧ w'.cell? ⟨(ad0_.add ((a0_1).toNat * 7)).block, (ad0_.add ((a0_1).toNat * 7)).off + 2, none⟩ = some (.slice A9000_2 ((rd_T39 l0_0 a0_1).f2).length c9000_2) ∧ w'.cell? ⟨(ad0_.add ((a0_1).toNat * 7)).block, (ad0_.add ((a0_1).toNat * 7)).off + 3, none⟩ = some (.slice A9000_3 ((rd_T39 l0_0 a0_1).f3).length c9000_3) ∧ w'.cell? ⟨(ad0_.add ((a0_1).toNat * 7)).block, (ad0_.add ((a0_1).toNat * 7)).off + 4, none⟩ = some (.slice A9000_4 ((rd_T39 l0_0 a0_1).f4).length c9000_4) ∧ w'.cell? ⟨(ad0_.add ((a0_1).toNat * 7)).block, (ad0_.add ((a0_1).toNat * 7)).off + 5, none⟩ = some (.slice A9000_5 ((rd_T39 l0_0 a0_1).f5).length c9000_5) ∧ w'.cell? ⟨(ad0_.add ((a0_1).toNat * 7)).block, (ad0_.add ((a0_1).toNat * 7)).off + 6, none⟩ = some (.int .i64 ((rd_T39 l0_0 a0_1).f6)) ∧ w'.cell? (ad0_.add ((a0_1).toNat * 7)) = some (.int .i64 ((rd_T39 l0_0 a0_1).f0)) ∧ w'.cell? ⟨(ad0_.add ((a0_1).toNat * 7)).block, (ad0_.add ((a0_1).toNat * 7)).off + 1, none⟩ = some (.string ((rd_T39 l0_0 a0_1).f1)) ∧ w'.cell? ⟨(ad0_.add ((a0_1).toNat * 7)).block, (ad0_.add ((a0_1).toNat * 7)).off + 2, none⟩ = some (.slice A9000_2 ((rd_T39 l0_0 a0_1).f2).length c9000_2) ∧ w'.cell? ⟨(ad0_.add ((a0_1).toNat * 7)).block, (ad0_.add ((a0_1).toNat * 7)).off + 3, none⟩ = some (.slice A9000_3 ((rd_T39 l0_0 a0_1).f3).length c9000_3) ∧ w'.cell? ⟨(ad0_.add ((a0_1).toNat * 7)).block, (ad0_.add ((a0_1).toNat * 7)).off + 4, none⟩ = some (.slice A9000_4 ((rd_T39 l0_0 a0_1).f4).length c9000_4) ∧ w'.cell? ⟨(ad0_.add ((a0_1).toNat * 7)).block, (ad0_.add ((a0_1).toNat * 7)).off + 5, none⟩ = some (.slice A9000_5 ((rd_T39 l0_0 a0_1).f5).length c9000_5) ∧ w'.cell? ⟨(ad0_.add ((a0_1).toNat * 7)).block, (ad0_.add ((a0_1).toNat * 7)).off + 6, none⟩ = some (.int .i64 ((rd_T39 l0_0 a0_1).f6)) ∧ w'.cell? (ad0_.add ((a0_1).toNat * 7)) = some (.int .i64 ((rd_T39 l0_0 a0_1).f0)) ∧ w'.cell? ⟨(ad0_.add ((a0_1).toNat * 7)).block, (ad0_.add ((a0_1).toNat * 7)).off + 1, none⟩ = some (.string ((rd_T39 l0_0 a0_1).f1)) ∧ w'.cell? ⟨(ad0_.add ((a0_1).toNat * 7)).block, (ad0_.add ((a0_1).toNat * 7)).off + 2, none⟩ = some (.slice A9000_2 ((rd_T39 l0_0 a0_1).f2).length c9000_2) ∧ w'.cell? ⟨(ad0_.add ((a0_1).toNat * 7)).block, (ad0_.add ((a0_1).toNat * 7)).off + 3, none⟩ = some (.slice A9000_3 ((rd_T39 l0_0 a0_1).f3).length c9000_3) ∧ w'.cell? ⟨(ad0_.add ((a0_1).toNat * 7)).block, (ad0_.add ((a0_1).toNat * 7)).off + 4, none⟩ = some (.slice A9000_4 ((rd_T39 l0_0 a0_1).f4).length c9000_4) ∧ w'.cell? ⟨(ad0_.add ((a0_1).toNat * 7)).block, (ad0_.add ((a0_1).toNat * 7)).off + 5, none⟩ = some (.slice A9000_5 ((rd_T39 l0_0 a0_1).f5).length c9000_5) ∧ w'.cell? ⟨(ad0_.add ((a0_1).toNat * 7)).block, (ad0_.add ((a0_1).toNat * 7)).off + 6, none⟩ = some (.int .i64 ((rd_T39 l0_0 a0_1).f6))) (ds := []) mkspec_l464_51 (by kernel_rfl) rfl rfl ⟨(cB HB.out hw283_0), (cB HB.out hw283_1), (cB HB.out hw283_2), (cB HB.out hw283_3), (cB HB.out hw283_4), (cB HB.out hw283_5), (cB HB.out hw283_6), (cB HB.out hw284_0), (cB HB.out hw284_1), (cB HB.out hw284_2), (cB HB.out hw284_3), (cB HB.out hw284_4), (cB HB.out hw284_5), (cB HB.out hw284_6), (cB HB.out hw286_0), (cB HB.out hw286_1), (cB HB.out hw286_2), (cB HB.out hw286_3), (cB HB.out hw286_4), (cB HB.out hw286_5), (cB HB.out hw286_6)⟩ (fun hHeld => ?_); refine with_tabW spec_l24Text_at.tab15 spec_l24Text_at.bits15 (fun HT_ HW_ => ?_)
           generalize w.drew = w56 at HB HR283_2 HR283_3 HR283_4 HR283_5 HR284_2 HR284_3 HR284_4 HR284_5 HR286_2 HR286_3 HR286_4 HR286_5 hx283_0 hx283_1 hx283_2 hx283_3 hx283_4 hx283_5 hx283_6 hx284_0 hx284_1 hx284_2 hx284_3 hx284_4 hx284_5 hx284_6 hx286_0 hx286_1 hx286_2 hx286_3 hx286_4 hx286_5 hx286_6 hHeld ⊢
           refine pQ (i := 0) (N := some 122) mkspec_l464_53 ?_
           refine pQ (i := 1) (N := some 123) mkspec_l464_54 ?_
           refine pQ (i := 2) (N := some 124) mkspec_l464_55 ?_
           refine pQ (i := 6) (N := some 128) mkspec_l464_56 ?_
           refine pQ (i := 7) (N := some 129) mkspec_l464_57 ?_
           refine pQ (i := 8) (N := some 130) mkspec_l464_58 ?_
           refine pQ (i := 12) (N := some 134) mkspec_l464_59 ?_
           refine pQ (i := 13) (N := some 135) mkspec_l464_60 ?_
           refine pQ (i := 14) (N := some 136) mkspec_l464_61 ?_
           refine tQ (i := 3) (N := some 125) mkspec_l464_62 rfl hHeld (Or.inl ⟨by rfl, by rintro w' ⟨s0, s1, s2, s3, s4, s5, s6, s7, s8, s9, s10, s11, s12, s13, s14, s15, s16, s17, s18, s19, s20⟩; go_simp; with_reducible rfl⟩) ?_
           refine pQ (i := 4) (N := some 126) mkspec_l464_63 ?_
           refine pQ (i := 5) (N := some 127) mkspec_l464_64 ?_
           refine tQ (i := 9) (N := some 131) mkspec_l464_65 rfl hHeld (Or.inl ⟨by rfl, by rintro w' ⟨s0, s1, s2, s3, s4, s5, s6, s7, s8, s9, s10, s11, s12, s13, s14, s15, s16, s17, s18, s19, s20⟩; go_simp; with_reducible rfl⟩) ?_
           refine tQ (i := 15) (N := some 137) mkspec_l464_66 rfl hHeld (Or.inl ⟨by rfl, by rintro w' ⟨s0, s1, s2, s3, s4, s5, s6, s7, s8, s9, s10, s11, s12, s13, s14, s15, s16, s17, s18, s19, s20⟩; go_simp; with_reducible rfl⟩) ?_
           refine one_ (i := 10) (N := some 132) mkspec_l464_67 rfl rfl (one_of HT_.out (by kernel_rfl)) (by decide) (fun K hK => ?_)
           refine goes_ Try.func58 (by kernel_rfl) rfl #[.int .i64 ((rd_T39 l0_0 a0_1).f6)] (by rfl) rfl rfl gQ ?_
           with_reducible refine (spec_l24Kind.calls ((rd_T39 l0_0 a0_1).f6) t285 _ A52.out).mono ?_
           rintro e w57 ⟨rfl, hb⟩
           refine ⟨_, rfl, ?_⟩
           have n0_ := aM (below_step bQ hb)
           clear HB
           have HB := n0_
           clear n0_
           (try clear hb)
           (try clear hb2)
           (try clear hk)
           (try clear hi)
           refine hK.out _ _ ⟨(cB HB.out hw283_0), (cB HB.out hw283_1), (cB HB.out hw283_2), (cB HB.out hw283_3), (cB HB.out hw283_4), (cB HB.out hw283_5), (cB HB.out hw283_6), (cB HB.out hw284_0), (cB HB.out hw284_1), (cB HB.out hw284_2), (cB HB.out hw284_3), (cB HB.out hw284_4), (cB HB.out hw284_5), (cB HB.out hw284_6), (cB HB.out hw286_0), (cB HB.out hw286_1), (cB HB.out hw286_2), (cB HB.out hw286_3), (cB HB.out hw286_4), (cB HB.out hw286_5), (cB HB.out hw286_6)⟩ (fun hHeld => ?_)
           clear hK K
           refine norm_ (a' := ?_) ?_ ?_
           rotate_left
           ·show Act.put _ (some 132) _ = _
            simp only [Act.put, sI, sZ, sS, i64_w, i32_w]
            rfl
           refine pQ (i := 11) (N := some 133) mkspec_l464_68 ?_
           refine one_ (i := 16) (N := some 138) mkspec_l464_69 rfl rfl (one_of HT_.out (by kernel_rfl)) (by decide) (fun K hK => ?_)
           refine goes_ Try.func56 (by kernel_rfl) rfl #[.slice A9000_5 ((rd_T39 l0_0 a0_1).f5).length c9000_5] (by rfl) rfl rfl gQ ?_
           with_reducible refine (spec_l24Words.calls k _ _ ((rd_T39 l0_0 a0_1).f5) t287 _ ?side1 ?side2 A54.out).mono ?_
           (case side1 => exact cQ HR286_5.out)
           (case side2 => exact HC286_5.out)
           rintro e w' ⟨rfl, ⟨nd, rfl⟩⟩
           refine ⟨_, rfl, ?_⟩
           refine hK.out _ _ ⟨(cB HB.out hw283_0), (cB HB.out hw283_1), (cB HB.out hw283_2), (cB HB.out hw283_3), (cB HB.out hw283_4), (cB HB.out hw283_5), (cB HB.out hw283_6), (cB HB.out hw284_0), (cB HB.out hw284_1), (cB HB.out hw284_2), (cB HB.out hw284_3), (cB HB.out hw284_4), (cB HB.out hw284_5), (cB HB.out hw284_6), (cB HB.out hw286_0), (cB HB.out hw286_1), (cB HB.out hw286_2), (cB HB.out hw286_3), (cB HB.out hw286_4), (cB HB.out hw286_5), (cB HB.out hw286_6)⟩ (fun hHeld => ?_)
           clear hK K
           refine norm_ (a' := ?_) ?_ ?_
           rotate_left
           ·show Act.put _ (some 138) _ = _
            simp only [Act.put, sI, sZ, sS, i64_w, i32_w]
            rfl
           refine pQ (i := 17) (N := some 139) mkspec_l464_70 ?_
           refine pQ (i := 18) (N := some 2) mkspec_l464_71 ?_
           refine done_ (done_of HT_.out (by kernel_rfl)) ?_
           try go_wp2
           go_ret
           exact ⟨eQ, bQ⟩
          ·rw [if_neg c55] at H
           exact absurd H (by simp)
         ·rw [if_neg c53] at H
          exact absurd H (by simp)
        ·rw [if_neg c51] at H
         exact absurd H (by simp)
       ·rw [if_neg c50] at H
        exact absurd H (by simp)
      ·rw [if_neg c49] at H
       have c49b0 : (((rd_T39 l0_0 a0_1).f0) == 7) = false := beq_eq_false_iff_ne.mpr c49
       have c49b1 : (((rd_T39 l0_0 a0_1).f0) != 7) = true := bne_iff_ne.mpr c49
       obtain rfl := Option.some.inj H
       have hx255_0 := HX9000_0.out
       have hx255_1 := HX9000_1.out
       have hx255_2 := HX9000_2.out
       have hx255_3 := HX9000_3.out
       have hx255_4 := HX9000_4.out
       have hx255_5 := HX9000_5.out
       have hx255_6 := HX9000_6.out
       have HR255_2 := HR9000_2
       have HC255_2 := HC9000_2
       have HR255_3 := HR9000_3
       have HC255_3 := HC9000_3
       have HR255_4 := HR9000_4
       have HC255_4 := HC9000_4
       have HR255_5 := HR9000_5
       have HC255_5 := HC9000_5
       go_enter Try.func34, Try.ntmps34
       go_wp2
       go_ret
       exact ⟨eQ, bQ⟩

end Go.Proofs.Ytfabhfdjabehpaa.QFnExactSourceText
