/- What some Go functions answer, each as a Lean function, and that the machine answers so: written by a program of this session out of the translation. -/
import Derived.Test.YtfabhfdjabehpaaQFnExactLineTextx0
import Derived.Test.YtfabhfdjabehpaaQFnExactLineTextx2
namespace Go.Proofs.Ytfabhfdjabehpaa.QFnExactLineText
open Go.RowKit Go.Proofs.YtfabhfdjabehpaaW.PrintWords Go.Proofs.YtfabhfdjabehpaaW.PrintLast Go.Proofs.YtfabhfdjabehpaaW.PrintMore Go.Proofs.Ytfabhfdjabehpaa.Rp
attribute [local go_sem] max2_int min2_int max_two min_two max_three min_three max_four min_four   -- for this text's walks alone
set_option linter.unusedVariables false
set_option linter.unusedSimpArgs false

/-! ### spec_l24Text_at: function 34 -/
abbrev mkspec_l464_0 : Array Bool := #[ff,ff,ff,ff,ff,ff,ff,ff,ff,ff,ff,ff,ff,ff,ff,ff,ff,ff,ff,ff,ff,ff,ff,ff,ff,ff,ff,ff]
abbrev mkspec_l464_1 : Array Bool := #[tt,ff,ff,ff,ff,ff,ff,ff,ff,ff,ff,ff,ff,ff,ff,ff,ff,ff,ff,ff,ff,ff,ff,ff,ff,ff,ff,ff]
abbrev mkspec_l464_2 : Array Bool := #[tt,tt,ff,ff,ff,ff,ff,ff,ff,ff,ff,ff,ff,ff,ff,ff,ff,ff,ff,ff,ff,ff,ff,ff,ff,ff,ff,ff]
abbrev mkspec_l464_3 : Array Bool := #[tt,tt,tt,ff,ff,ff,ff,ff,ff,ff,ff,ff,ff,ff,ff,ff,ff,ff,ff,ff,ff,ff,ff,ff,ff,ff,ff,ff]
abbrev mkspec_l464_4 : Array Bool := #[tt,tt,tt,ff,ff,ff,ff,tt,ff,ff,ff,ff,ff,ff,ff,ff,ff,ff,ff,ff,ff,ff,ff,ff,ff,ff,ff,ff]
abbrev mkspec_l464_5 : Array Bool := #[tt,tt,tt,ff,ff,ff,ff,tt,tt,ff,ff,ff,ff,ff,ff,ff,ff,ff,ff,ff,ff,ff,ff,ff,ff,ff,ff,ff]
abbrev mkspec_l464_6 : Array Bool := #[tt,tt,tt,ff,ff,ff,ff,tt,tt,tt,ff,ff,ff,ff,ff,ff,ff,ff,ff,ff,ff,ff,ff,ff,ff,ff,ff,ff]
abbrev mkspec_l464_7 : Array Bool := #[tt,tt,tt,ff,ff,ff,ff,tt,tt,tt,ff,ff,ff,ff,tt,ff,ff,ff,ff,ff,ff,ff,ff,ff,ff,ff,ff,ff]
abbrev mkspec_l464_8 : Array Bool := #[tt,tt,tt,ff,ff,ff,ff,tt,tt,tt,ff,ff,ff,ff,tt,tt,ff,ff,ff,ff,ff,ff,ff,ff,ff,ff,ff,ff]
abbrev mkspec_l464_9 : Array Bool := #[tt,tt,tt,ff,ff,ff,ff,tt,tt,tt,ff,ff,ff,ff,tt,tt,tt,ff,ff,ff,ff,ff,ff,ff,ff,ff,ff,ff]
abbrev mkspec_l464_10 : Array Bool := #[tt,tt,tt,ff,ff,ff,ff,tt,tt,tt,ff,ff,ff,ff,tt,tt,tt,ff,ff,ff,ff,tt,ff,ff,ff,ff,ff,ff]
abbrev mkspec_l464_11 : Array Bool := #[tt,tt,tt,ff,ff,ff,ff,tt,tt,tt,ff,ff,ff,ff,tt,tt,tt,ff,ff,ff,ff,tt,tt,ff,ff,ff,ff,ff]
abbrev mkspec_l464_12 : Array Bool := #[tt,tt,tt,ff,ff,ff,ff,tt,tt,tt,ff,ff,ff,ff,tt,tt,tt,ff,ff,ff,ff,tt,tt,tt,ff,ff,ff,ff]
abbrev mkspec_l464_13 : Array Bool := #[tt,tt,tt,tt,ff,ff,ff,tt,tt,tt,ff,ff,ff,ff,tt,tt,tt,ff,ff,ff,ff,tt,tt,tt,ff,ff,ff,ff]
abbrev mkspec_l464_14 : Array Bool := #[tt,tt,tt,tt,ff,ff,ff,tt,tt,tt,tt,ff,ff,ff,tt,tt,tt,ff,ff,ff,ff,tt,tt,tt,ff,ff,ff,ff]
abbrev mkspec_l464_15 : Array Bool := #[tt,tt,tt,tt,ff,ff,ff,tt,tt,tt,tt,ff,ff,ff,tt,tt,tt,tt,ff,ff,ff,tt,tt,tt,ff,ff,ff,ff]
abbrev mkspec_l464_16 : Array Bool := #[tt,tt,tt,tt,ff,ff,ff,tt,tt,tt,tt,ff,ff,ff,tt,tt,tt,tt,ff,ff,ff,tt,tt,tt,tt,ff,ff,ff]
abbrev mkspec_l464_17 : Array Bool := #[tt,tt,tt,tt,tt,ff,ff,tt,tt,tt,tt,ff,ff,ff,tt,tt,tt,tt,ff,ff,ff,tt,tt,tt,tt,ff,ff,ff]
abbrev mkspec_l464_18 : Array Bool := #[tt,tt,tt,tt,tt,tt,ff,tt,tt,tt,tt,ff,ff,ff,tt,tt,tt,tt,ff,ff,ff,tt,tt,tt,tt,ff,ff,ff]
abbrev mkspec_l464_19 : Array Bool := #[tt,tt,tt,tt,tt,tt,tt,tt,tt,tt,tt,ff,ff,ff,tt,tt,tt,tt,ff,ff,ff,tt,tt,tt,tt,ff,ff,ff]
abbrev mkspec_l464_20 : Array Bool := #[tt,tt,tt,tt,tt,tt,tt,tt,tt,tt,tt,tt,ff,ff,tt,tt,tt,tt,ff,ff,ff,tt,tt,tt,tt,ff,ff,ff]
abbrev mkspec_l464_21 : Array Bool := #[tt,tt,tt,tt,tt,tt,tt,tt,tt,tt,tt,tt,tt,ff,tt,tt,tt,tt,ff,ff,ff,tt,tt,tt,tt,ff,ff,ff]
abbrev mkspec_l464_22 : Array Bool := #[tt,tt,tt,tt,tt,tt,tt,tt,tt,tt,tt,tt,tt,tt,tt,tt,tt,tt,ff,ff,ff,tt,tt,tt,tt,ff,ff,ff]
abbrev mkspec_l464_23 : Array Bool := #[tt,tt,tt,tt,tt,tt,tt,tt,tt,tt,tt,tt,tt,tt,tt,tt,tt,tt,tt,ff,ff,tt,tt,tt,tt,ff,ff,ff]
abbrev mkspec_l464_24 : Array Bool := #[tt,tt,tt,tt,tt,tt,tt,tt,tt,tt,tt,tt,tt,tt,tt,tt,tt,tt,tt,tt,ff,tt,tt,tt,tt,ff,ff,ff]
abbrev mkspec_l464_25 : Array Bool := #[tt,tt,tt,tt,tt,tt,tt,tt,tt,tt,tt,tt,tt,tt,tt,tt,tt,tt,tt,tt,tt,tt,tt,tt,tt,ff,ff,ff]
abbrev mkspec_l464_26 : Array Bool := #[tt,tt,tt,tt,tt,tt,tt,tt,tt,tt,tt,tt,tt,tt,tt,tt,tt,tt,tt,tt,tt,tt,tt,tt,tt,tt,ff,ff]
abbrev mkspec_l464_27 : Array Bool := #[tt,tt,tt,tt,tt,tt,tt,tt,tt,tt,tt,tt,tt,tt,tt,tt,tt,tt,tt,tt,tt,tt,tt,tt,tt,tt,tt,ff]
abbrev mkspec_l464_28 : Array Bool := #[tt,tt,tt,tt,tt,tt,tt,tt,tt,tt,tt,tt,tt,tt,tt,tt,tt,tt,tt,tt,tt,tt,tt,tt,tt,tt,tt,tt]
abbrev mkspec_l464_29 : Array Bool := #[ff,ff,ff,ff,ff,ff,ff,ff,ff,ff,ff,ff,ff,ff,ff,ff,ff,ff,ff,ff,ff,ff]
abbrev mkspec_l464_30 : Array Bool := #[tt,ff,ff,ff,ff,ff,ff,ff,ff,ff,ff,ff,ff,ff,ff,ff,ff,ff,ff,ff,ff,ff]
abbrev mkspec_l464_31 : Array Bool := #[tt,tt,ff,ff,ff,ff,ff,ff,ff,ff,ff,ff,ff,ff,ff,ff,ff,ff,ff,ff,ff,ff]
abbrev mkspec_l464_32 : Array Bool := #[tt,tt,tt,ff,ff,ff,ff,ff,ff,ff,ff,ff,ff,ff,ff,ff,ff,ff,ff,ff,ff,ff]
abbrev mkspec_l464_33 : Array Bool := #[tt,tt,tt,ff,ff,ff,ff,ff,tt,ff,ff,ff,ff,ff,ff,ff,ff,ff,ff,ff,ff,ff]
abbrev mkspec_l464_34 : Array Bool := #[tt,tt,tt,ff,ff,ff,ff,ff,tt,tt,ff,ff,ff,ff,ff,ff,ff,ff,ff,ff,ff,ff]
abbrev mkspec_l464_35 : Array Bool := #[tt,tt,tt,ff,ff,ff,ff,ff,tt,tt,tt,ff,ff,ff,ff,ff,ff,ff,ff,ff,ff,ff]
abbrev mkspec_l464_36 : Array Bool := #[tt,tt,tt,ff,ff,ff,ff,ff,tt,tt,tt,ff,ff,ff,ff,ff,tt,ff,ff,ff,ff,ff]
abbrev mkspec_l464_37 : Array Bool := #[tt,tt,tt,ff,ff,ff,ff,ff,tt,tt,tt,ff,ff,ff,ff,ff,tt,tt,ff,ff,ff,ff]
abbrev mkspec_l464_38 : Array Bool := #[tt,tt,tt,ff,ff,ff,ff,ff,tt,tt,tt,ff,ff,ff,ff,ff,tt,tt,tt,ff,ff,ff]
abbrev mkspec_l464_39 : Array Bool := #[tt,tt,tt,tt,ff,ff,ff,ff,tt,tt,tt,ff,ff,ff,ff,ff,tt,tt,tt,ff,ff,ff]
abbrev mkspec_l464_40 : Array Bool := #[tt,tt,tt,tt,tt,ff,ff,ff,tt,tt,tt,ff,ff,ff,ff,ff,tt,tt,tt,ff,ff,ff]
abbrev mkspec_l464_41 : Array Bool := #[tt,tt,tt,tt,tt,tt,ff,ff,tt,tt,tt,ff,ff,ff,ff,ff,tt,tt,tt,ff,ff,ff]
abbrev mkspec_l464_42 : Array Bool := #[tt,tt,tt,tt,tt,tt,tt,ff,tt,tt,tt,ff,ff,ff,ff,ff,tt,tt,tt,ff,ff,ff]
abbrev mkspec_l464_43 : Array Bool := #[tt,tt,tt,tt,tt,tt,tt,tt,tt,tt,tt,ff,ff,ff,ff,ff,tt,tt,tt,ff,ff,ff]
abbrev mkspec_l464_44 : Array Bool := #[tt,tt,tt,tt,tt,tt,tt,tt,tt,tt,tt,tt,ff,ff,ff,ff,tt,tt,tt,ff,ff,ff]
abbrev mkspec_l464_45 : Array Bool := #[tt,tt,tt,tt,tt,tt,tt,tt,tt,tt,tt,tt,tt,ff,ff,ff,tt,tt,tt,ff,ff,ff]
abbrev mkspec_l464_46 : Array Bool := #[tt,tt,tt,tt,tt,tt,tt,tt,tt,tt,tt,tt,tt,tt,ff,ff,tt,tt,tt,ff,ff,ff]
abbrev mkspec_l464_47 : Array Bool := #[tt,tt,tt,tt,tt,tt,tt,tt,tt,tt,tt,tt,tt,tt,tt,ff,tt,tt,tt,ff,ff,ff]
abbrev mkspec_l464_48 : Array Bool := #[tt,tt,tt,tt,tt,tt,tt,tt,tt,tt,tt,tt,tt,tt,tt,tt,tt,tt,tt,ff,ff,ff]
abbrev mkspec_l464_49 : Array Bool := #[tt,tt,tt,tt,tt,tt,tt,tt,tt,tt,tt,tt,tt,tt,tt,tt,tt,tt,tt,tt,ff,ff]
abbrev mkspec_l464_50 : Array Bool := #[tt,tt,tt,tt,tt,tt,tt,tt,tt,tt,tt,tt,tt,tt,tt,tt,tt,tt,tt,tt,tt,ff]
abbrev mkspec_l464_51 : Array Bool := #[ff,ff,ff,ff,ff,ff,ff,ff,ff,ff,ff,ff,ff,ff,ff,ff,ff,ff,ff]
abbrev mkspec_l464_52 : Array Bool := #[tt,tt,tt,tt,tt,tt,tt,tt,tt,tt,tt,tt,tt,tt,tt,tt,tt,tt,tt,tt,tt,tt]
abbrev mkspec_l464_53 : Array Bool := #[tt,ff,ff,ff,ff,ff,ff,ff,ff,ff,ff,ff,ff,ff,ff,ff,ff,ff,ff]
abbrev mkspec_l464_54 : Array Bool := #[tt,tt,ff,ff,ff,ff,ff,ff,ff,ff,ff,ff,ff,ff,ff,ff,ff,ff,ff]
abbrev mkspec_l464_55 : Array Bool := #[tt,tt,tt,ff,ff,ff,ff,ff,ff,ff,ff,ff,ff,ff,ff,ff,ff,ff,ff]
abbrev mkspec_l464_56 : Array Bool := #[tt,tt,tt,ff,ff,ff,tt,ff,ff,ff,ff,ff,ff,ff,ff,ff,ff,ff,ff]
abbrev mkspec_l464_57 : Array Bool := #[tt,tt,tt,ff,ff,ff,tt,tt,ff,ff,ff,ff,ff,ff,ff,ff,ff,ff,ff]
abbrev mkspec_l464_58 : Array Bool := #[tt,tt,tt,ff,ff,ff,tt,tt,tt,ff,ff,ff,ff,ff,ff,ff,ff,ff,ff]
abbrev mkspec_l464_59 : Array Bool := #[tt,tt,tt,ff,ff,ff,tt,tt,tt,ff,ff,ff,tt,ff,ff,ff,ff,ff,ff]
abbrev mkspec_l464_60 : Array Bool := #[tt,tt,tt,ff,ff,ff,tt,tt,tt,ff,ff,ff,tt,tt,ff,ff,ff,ff,ff]
abbrev mkspec_l464_61 : Array Bool := #[tt,tt,tt,ff,ff,ff,tt,tt,tt,ff,ff,ff,tt,tt,tt,ff,ff,ff,ff]
abbrev mkspec_l464_62 : Array Bool := #[tt,tt,tt,tt,ff,ff,tt,tt,tt,ff,ff,ff,tt,tt,tt,ff,ff,ff,ff]
abbrev mkspec_l464_63 : Array Bool := #[tt,tt,tt,tt,tt,ff,tt,tt,tt,ff,ff,ff,tt,tt,tt,ff,ff,ff,ff]
abbrev mkspec_l464_64 : Array Bool := #[tt,tt,tt,tt,tt,tt,tt,tt,tt,ff,ff,ff,tt,tt,tt,ff,ff,ff,ff]
abbrev mkspec_l464_65 : Array Bool := #[tt,tt,tt,tt,tt,tt,tt,tt,tt,tt,ff,ff,tt,tt,tt,ff,ff,ff,ff]
abbrev mkspec_l464_66 : Array Bool := #[tt,tt,tt,tt,tt,tt,tt,tt,tt,tt,ff,ff,tt,tt,tt,tt,ff,ff,ff]
abbrev mkspec_l464_67 : Array Bool := #[tt,tt,tt,tt,tt,tt,tt,tt,tt,tt,tt,ff,tt,tt,tt,tt,ff,ff,ff]
abbrev mkspec_l464_68 : Array Bool := #[tt,tt,tt,tt,tt,tt,tt,tt,tt,tt,tt,tt,tt,tt,tt,tt,ff,ff,ff]
abbrev mkspec_l464_69 : Array Bool := #[tt,tt,tt,tt,tt,tt,tt,tt,tt,tt,tt,tt,tt,tt,tt,tt,tt,ff,ff]
abbrev mkspec_l464_70 : Array Bool := #[tt,tt,tt,tt,tt,tt,tt,tt,tt,tt,tt,tt,tt,tt,tt,tt,tt,tt,ff]
abbrev mkspec_l464_71 : Array Bool := #[tt,tt,tt,tt,tt,tt,tt,tt,tt,tt,tt,tt,tt,tt,tt,tt,tt,tt,tt]
abbrev mkspec_l464_72 : Array Bool := #[ff,ff,ff,ff,ff,ff,ff,ff,ff,ff,ff,ff,ff,ff]
abbrev mkspec_l464_73 : Array Bool := #[tt,ff,ff,ff,ff,ff,ff,ff,ff,ff,ff,ff,ff,ff]
abbrev mkspec_l464_74 : Array Bool := #[tt,tt,ff,ff,ff,ff,ff,ff,ff,ff,ff,ff,ff,ff]
abbrev mkspec_l464_75 : Array Bool := #[tt,tt,tt,ff,ff,ff,ff,ff,ff,ff,ff,ff,ff,ff]
abbrev mkspec_l464_76 : Array Bool := #[tt,tt,tt,ff,ff,ff,ff,tt,ff,ff,ff,ff,ff,ff]
abbrev mkspec_l464_77 : Array Bool := #[tt,tt,tt,ff,ff,ff,ff,tt,tt,ff,ff,ff,ff,ff]
abbrev mkspec_l464_78 : Array Bool := #[tt,tt,tt,ff,ff,ff,ff,tt,tt,tt,ff,ff,ff,ff]
abbrev mkspec_l464_79 : Array Bool := #[ff,ff,ff,ff,ff,ff,ff,ff,ff,ff,ff,ff,ff]
abbrev mkspec_l464_80 : Array Bool := #[tt,tt,tt,tt,ff,ff,ff,tt,tt,tt,ff,ff,ff,ff]
abbrev mkspec_l464_81 : Array Bool := #[tt,ff,ff,ff,ff,ff,ff,ff,ff,ff,ff,ff,ff]
abbrev mkspec_l464_82 : Array Bool := #[tt,tt,tt,tt,ff,ff,ff,tt,tt,tt,tt,ff,ff,ff]
abbrev mkspec_l464_83 : Array Bool := #[tt,tt,ff,ff,ff,ff,ff,ff,ff,ff,ff,ff,ff]
abbrev mkspec_l464_84 : Array Bool := #[tt,tt,tt,tt,tt,ff,ff,tt,tt,tt,tt,ff,ff,ff]
abbrev mkspec_l464_85 : Array Bool := #[tt,tt,tt,ff,ff,ff,ff,ff,ff,ff,ff,ff,ff]
abbrev mkspec_l464_86 : Array Bool := #[tt,tt,tt,tt,tt,tt,ff,tt,tt,tt,tt,ff,ff,ff]
abbrev mkspec_l464_87 : Array Bool := #[tt,tt,tt,ff,ff,ff,tt,ff,ff,ff,ff,ff,ff]
abbrev mkspec_l464_88 : Array Bool := #[tt,tt,tt,tt,tt,tt,tt,tt,tt,tt,tt,ff,ff,ff]
abbrev mkspec_l464_89 : Array Bool := #[tt,tt,tt,ff,ff,ff,tt,tt,ff,ff,ff,ff,ff]
abbrev mkspec_l464_90 : Array Bool := #[tt,tt,tt,tt,tt,tt,tt,tt,tt,tt,tt,tt,ff,ff]
abbrev mkspec_l464_91 : Array Bool := #[tt,tt,tt,ff,ff,ff,tt,tt,tt,ff,ff,ff,ff]
abbrev mkspec_l464_92 : Array Bool := #[tt,tt,tt,tt,tt,tt,tt,tt,tt,tt,tt,tt,tt,ff]
abbrev mkspec_l464_93 : Array Bool := #[tt,tt,tt,tt,ff,ff,tt,tt,tt,ff,ff,ff,ff]
abbrev mkspec_l464_94 : Array Bool := #[ff,ff,ff,ff,ff,ff,ff,ff,ff,ff,ff,ff]
abbrev mkspec_l464_95 : Array Bool := #[tt,tt,tt,tt,tt,tt,tt,tt,tt,tt,tt,tt,tt,tt]
abbrev mkspec_l464_96 : Array Bool := #[tt,tt,tt,tt,tt,ff,tt,tt,tt,ff,ff,ff,ff]
abbrev mkspec_l464_97 : Array Bool := #[tt,ff,ff,ff,ff,ff,ff,ff,ff,ff,ff,ff]
abbrev mkspec_l464_98 : Array Bool := #[tt,tt,tt,tt,tt,tt,tt,tt,tt,ff,ff,ff,ff]
abbrev mkspec_l464_99 : Array Bool := #[tt,tt,ff,ff,ff,ff,ff,ff,ff,ff,ff,ff]
abbrev mkspec_l464_100 : Array Bool := #[tt,tt,tt,tt,tt,tt,tt,tt,tt,tt,ff,ff,ff]
abbrev mkspec_l464_101 : Array Bool := #[tt,tt,tt,ff,ff,ff,ff,ff,ff,ff,ff,ff]
abbrev mkspec_l464_102 : Array Bool := #[tt,tt,tt,tt,tt,tt,tt,tt,tt,tt,tt,ff,ff]
abbrev mkspec_l464_103 : Array Bool := #[tt,tt,tt,ff,ff,tt,ff,ff,ff,ff,ff,ff]
abbrev mkspec_l464_104 : Array Bool := #[tt,tt,tt,tt,tt,tt,tt,tt,tt,tt,tt,tt,ff]
abbrev mkspec_l464_105 : Array Bool := #[tt,tt,tt,ff,ff,tt,tt,ff,ff,ff,ff,ff]
abbrev mkspec_l464_106 : Array Bool := #[tt,tt,tt,tt,tt,tt,tt,tt,tt,tt,tt,tt,tt]
abbrev mkspec_l464_107 : Array Bool := #[tt,tt,tt,ff,ff,tt,tt,tt,ff,ff,ff,ff]
abbrev mkspec_l464_108 : Array Bool := #[tt,tt,tt,tt,ff,tt,tt,tt,ff,ff,ff,ff]
abbrev mkspec_l464_109 : Array Bool := #[tt,tt,tt,tt,tt,tt,tt,tt,ff,ff,ff,ff]
abbrev mkspec_l464_110 : Array Bool := #[tt,tt,tt,tt,tt,tt,tt,tt,tt,ff,ff,ff]
abbrev mkspec_l464_111 : Array Bool := #[tt,tt,tt,tt,tt,tt,tt,tt,tt,tt,ff,ff]
abbrev mkspec_l464_112 : Array Bool := #[tt,tt,tt,tt,tt,tt,tt,tt,tt,tt,tt,ff]
abbrev mkspec_l464_113 : Array Bool := #[tt,tt,tt,tt,tt,tt,tt,tt,tt,tt,tt,tt]
def spec_l24Text_at.f (k : Nat) (l0_0 : List (S39)) (a0_1 : Int) : Option (ByteArray) := if ((rd_T39 l0_0 a0_1).f0) = 1 then (if 6 + ((rd_T39 l0_0 a0_1).f1).size ≤ 9223372036854775807 then (if ((⟨#[99, 108, 97, 115, 115, 32]⟩ : ByteArray) ++ ((rd_T39 l0_0 a0_1).f1)).size + 2 ≤ 9223372036854775807 then ((spec_l24Words.f k ((rd_T39 l0_0 a0_1).f3)).bind fun t203 => (if (((⟨#[99, 108, 97, 115, 115, 32]⟩ : ByteArray) ++ ((rd_T39 l0_0 a0_1).f1)) ++ (⟨#[32, 61]⟩ : ByteArray)).size + t203.size ≤ 9223372036854775807 then (some ((((⟨#[99, 108, 97, 115, 115, 32]⟩ : ByteArray) ++ ((rd_T39 l0_0 a0_1).f1)) ++ (⟨#[32, 61]⟩ : ByteArray)) ++ t203)) else (none))) else (none)) else (none)) else (if ((rd_T39 l0_0 a0_1).f0) = 2 then (if 7 + ((rd_T39 l0_0 a0_1).f1).size ≤ 9223372036854775807 then (some ((⟨#[108, 111, 111, 107, 117, 112, 32]⟩ : ByteArray) ++ ((rd_T39 l0_0 a0_1).f1))) else (none)) else (if ((rd_T39 l0_0 a0_1).f0) = 3 then (if (wrap64 ((((rd_T39 l0_0 a0_1).f2).length : Int) + (((rd_T39 l0_0 a0_1).f4).length : Int))) = 0 then ((spec_l24Words.f k ((rd_T39 l0_0 a0_1).f3)).bind fun t208 => (if 3 + t208.size ≤ 9223372036854775807 then (if ((⟨#[115, 117, 98]⟩ : ByteArray) ++ t208).size + 3 ≤ 9223372036854775807 then ((spec_l24Words.f k ((rd_T39 l0_0 a0_1).f5)).bind fun t210 => (if (((⟨#[115, 117, 98]⟩ : ByteArray) ++ t208) ++ (⟨#[32, 98, 121]⟩ : ByteArray)).size + t210.size ≤ 9223372036854775807 then (some ((((⟨#[115, 117, 98]⟩ : ByteArray) ++ t208) ++ (⟨#[32, 98, 121]⟩ : ByteArray)) ++ t210)) else (none))) else (none)) else (none))) else ((spec_l24Words.f k ((rd_T39 l0_0 a0_1).f2)).bind fun t212 => (if 3 + t212.size ≤ 9223372036854775807 then (if ((⟨#[115, 117, 98]⟩ : ByteArray) ++ t212).size + 2 ≤ 9223372036854775807 then ((spec_l24Words.f k ((rd_T39 l0_0 a0_1).f3)).bind fun t214 => (if (((⟨#[115, 117, 98]⟩ : ByteArray) ++ t212) ++ (⟨#[32, 124]⟩ : ByteArray)).size + t214.size ≤ 9223372036854775807 then (if ((((⟨#[115, 117, 98]⟩ : ByteArray) ++ t212) ++ (⟨#[32, 124]⟩ : ByteArray)) ++ t214).size + 2 ≤ 9223372036854775807 then ((spec_l24Words.f k ((rd_T39 l0_0 a0_1).f4)).bind fun t216 => (if (((((⟨#[115, 117, 98]⟩ : ByteArray) ++ t212) ++ (⟨#[32, 124]⟩ : ByteArray)) ++ t214) ++ (⟨#[32, 124]⟩ : ByteArray)).size + t216.size ≤ 9223372036854775807 then (if ((((((⟨#[115, 117, 98]⟩ : ByteArray) ++ t212) ++ (⟨#[32, 124]⟩ : ByteArray)) ++ t214) ++ (⟨#[32, 124]⟩ : ByteArray)) ++ t216).size + 3 ≤ 9223372036854775807 then ((spec_l24Words.f k ((rd_T39 l0_0 a0_1).f5)).bind fun t218 => (if (((((((⟨#[115, 117, 98]⟩ : ByteArray) ++ t212) ++ (⟨#[32, 124]⟩ : ByteArray)) ++ t214) ++ (⟨#[32, 124]⟩ : ByteArray)) ++ t216) ++ (⟨#[32, 98, 121]⟩ : ByteArray)).size + t218.size ≤ 9223372036854775807 then (some ((((((((⟨#[115, 117, 98]⟩ : ByteArray) ++ t212) ++ (⟨#[32, 124]⟩ : ByteArray)) ++ t214) ++ (⟨#[32, 124]⟩ : ByteArray)) ++ t216) ++ (⟨#[32, 98, 121]⟩ : ByteArray)) ++ t218)) else (none))) else (none)) else (none))) else (none)) else (none))) else (none)) else (none)))) else (if ((rd_T39 l0_0 a0_1).f0) = 5 then ((spec_l24Words.f k ((rd_T39 l0_0 a0_1).f3)).bind fun t220 => (if 4 + t220.size ≤ 9223372036854775807 then (if ((⟨#[107, 101, 114, 110]⟩ : ByteArray) ++ t220).size + 1 ≤ 9223372036854775807 then ((spec_l01Dec.f k ((rd_T39 l0_0 a0_1).f6)).bind fun t222 => (if (((⟨#[107, 101, 114, 110]⟩ : ByteArray) ++ t220) ++ (⟨#[32]⟩ : ByteArray)).size + t222.size ≤ 9223372036854775807 then (some ((((⟨#[107, 101, 114, 110]⟩ : ByteArray) ++ t220) ++ (⟨#[32]⟩ : ByteArray)) ++ t222)) else (none))) else (none)) else (none))) else (if ((rd_T39 l0_0 a0_1).f0) = 6 then (if 0 < (((rd_T39 l0_0 a0_1).f3).length : Int) then (if 5 + (rdOf ByteArray.empty ((rd_T39 l0_0 a0_1).f3) 0).size ≤ 9223372036854775807 then (if ((⟨#[109, 97, 114, 107, 32]⟩ : ByteArray) ++ (rdOf ByteArray.empty ((rd_T39 l0_0 a0_1).f3) 0)).size + 4 ≤ 9223372036854775807 then (if 1 < (((rd_T39 l0_0 a0_1).f3).length : Int) then (if (((⟨#[109, 97, 114, 107, 32]⟩ : ByteArray) ++ (rdOf ByteArray.empty ((rd_T39 l0_0 a0_1).f3) 0)) ++ (⟨#[32, 111, 110, 32]⟩ : ByteArray)).size + (rdOf ByteArray.empty ((rd_T39 l0_0 a0_1).f3) 1).size ≤ 9223372036854775807 then (if ((((⟨#[109, 97, 114, 107, 32]⟩ : ByteArray) ++ (rdOf ByteArray.empty ((rd_T39 l0_0 a0_1).f3) 0)) ++ (⟨#[32, 111, 110, 32]⟩ : ByteArray)) ++ (rdOf ByteArray.empty ((rd_T39 l0_0 a0_1).f3) 1)).size + 4 ≤ 9223372036854775807 then (if (((((⟨#[109, 97, 114, 107, 32]⟩ : ByteArray) ++ (rdOf ByteArray.empty ((rd_T39 l0_0 a0_1).f3) 0)) ++ (⟨#[32, 111, 110, 32]⟩ : ByteArray)) ++ (rdOf ByteArray.empty ((rd_T39 l0_0 a0_1).f3) 1)) ++ (⟨#[32, 97, 116, 32]⟩ : ByteArray)).size + ((rd_T39 l0_0 a0_1).f1).size ≤ 9223372036854775807 then (some ((((((⟨#[109, 97, 114, 107, 32]⟩ : ByteArray) ++ (rdOf ByteArray.empty ((rd_T39 l0_0 a0_1).f3) 0)) ++ (⟨#[32, 111, 110, 32]⟩ : ByteArray)) ++ (rdOf ByteArray.empty ((rd_T39 l0_0 a0_1).f3) 1)) ++ (⟨#[32, 97, 116, 32]⟩ : ByteArray)) ++ ((rd_T39 l0_0 a0_1).f1))) else (none)) else (none)) else (none)) else (none)) else (none)) else (none)) else (none)) else (if ((rd_T39 l0_0 a0_1).f0) = 7 then (if 5 + ((rd_T39 l0_0 a0_1).f1).size ≤ 9223372036854775807 then (if ((⟨#[106, 111, 105, 110, 32]⟩ : ByteArray) ++ ((rd_T39 l0_0 a0_1).f1)).size + 1 ≤ 9223372036854775807 then ((spec_l24Kind.f ((rd_T39 l0_0 a0_1).f6)).bind fun t230 => (if (((⟨#[106, 111, 105, 110, 32]⟩ : ByteArray) ++ ((rd_T39 l0_0 a0_1).f1)) ++ (⟨#[32]⟩ : ByteArray)).size + t230.size ≤ 9223372036854775807 then ((spec_l24Words.f k ((rd_T39 l0_0 a0_1).f5)).bind fun t232 => (if ((((⟨#[106, 111, 105, 110, 32]⟩ : ByteArray) ++ ((rd_T39 l0_0 a0_1).f1)) ++ (⟨#[32]⟩ : ByteArray)) ++ t230).size + t232.size ≤ 9223372036854775807 then (some (((((⟨#[106, 111, 105, 110, 32]⟩ : ByteArray) ++ ((rd_T39 l0_0 a0_1).f1)) ++ (⟨#[32]⟩ : ByteArray)) ++ t230) ++ t232)) else (none))) else (none))) else (none)) else (none)) else (some (⟨#[101, 110, 100]⟩ : ByteArray)))))))
theorem spec_l24Text_at.mono : ∀ a0 a1 k, LeO (spec_l24Text_at.f k a0 a1) (spec_l24Text_at.f (k + 1) a0 a1) := by
 intro a0 a1 k
 unfold spec_l24Text_at.f
 repeat' first
   | (with_reducible exact spec_l01Dec.mono _ _)
   | (with_reducible exact spec_l24Words.mono _ _)
   | (with_reducible exact LeO.refl _)
   | (with_reducible exact LeO.none _)
   | (with_reducible refine LeO.ite ?_ ?_)
   | (with_reducible refine LeO.bind ?_ (fun _ => ?_))
   | exact spec_l01Dec.mono _ _
   | exact spec_l24Words.mono _ _
   | exact LeO.none _
   | refine LeO.ite ?_ ?_
   | refine LeO.bind ?_ (fun _ => ?_)
def spec_l24Text_at.T3 : Bool × List (List Nat × List Nat) := (true, [([], []), ([0], [0]), ([1], [1]), ([2], [2]), ([3], [3]), ([4], [4]), ([], []), ([6], [6]), ([7], [7]), ([8], [8]), ([9], [9]), ([5, 10], [5, 10]), ([11, 10, 0, 1, 2, 3, 4, 5, 6, 7, 8, 9, 10, 11], [11])])
def spec_l24Text_at.B3 : List Nat := [0, 1, 3, 7, 15, 31, 0, 64, 192, 448, 960, 2047, 4095]
theorem spec_l24Text_at.tab3 : rtab .any (opsOf Try.f34 3) = spec_l24Text_at.T3 := by kernel_rfl
theorem spec_l24Text_at.bits3 : waitsOk spec_l24Text_at.T3.2 spec_l24Text_at.B3 = true := by kernel_rfl
def spec_l24Text_at.T7 : Bool × List (List Nat × List Nat) := (true, [([], []), ([0], [0]), ([1], [1]), ([2], [2]), ([3], [3]), ([], []), ([5], [5]), ([6], [6]), ([7], [7]), ([8], [8]), ([4, 9], [4, 9]), ([10], [10])])
def spec_l24Text_at.B7 : List Nat := [0, 1, 3, 7, 15, 0, 32, 96, 224, 480, 1023, 2047]
theorem spec_l24Text_at.tab7 : rtab .any (opsOf Try.f34 7) = spec_l24Text_at.T7 := by kernel_rfl
theorem spec_l24Text_at.bits7 : waitsOk spec_l24Text_at.T7.2 spec_l24Text_at.B7 = true := by kernel_rfl
def spec_l24Text_at.T8 : Bool × List (List Nat × List Nat) := (true, [([], []), ([0], [0]), ([1], [1]), ([2], [2]), ([3], [3]), ([4], [4]), ([5], [5]), ([], []), ([7], [7]), ([8], [8]), ([9], [9]), ([10, 4], [10]), ([6, 11], [6, 11]), ([12, 11, 0, 1, 2, 3, 4, 5, 6, 7, 8, 9, 10, 11, 12], [12])])
def spec_l24Text_at.B8 : List Nat := [0, 1, 3, 7, 15, 31, 63, 0, 128, 384, 896, 1951, 4095, 8191]
theorem spec_l24Text_at.tab8 : rtab .any (opsOf Try.f34 8) = spec_l24Text_at.T8 := by kernel_rfl
theorem spec_l24Text_at.bits8 : waitsOk spec_l24Text_at.T8.2 spec_l24Text_at.B8 = true := by kernel_rfl
def spec_l24Text_at.T9 : Bool × List (List Nat × List Nat) := (true, [([], []), ([0], [0]), ([1], [1]), ([2], [2]), ([3], [3]), ([4], [4]), ([5], [5]), ([], []), ([7], [7]), ([8], [8]), ([9], [9]), ([10, 4], [10]), ([6, 11], [6, 11]), ([12], [12]), ([], []), ([14], [14]), ([15], [15]), ([16], [16]), ([17, 11], [17]), ([13, 18], [13, 18]), ([19], [19]), ([], []), ([21], [21]), ([22], [22]), ([23], [23]), ([24, 18], [24]), ([20, 25], [20, 25]), ([26, 25, 0, 1, 2, 3, 4, 5, 6, 7, 8, 9, 10, 11, 12, 13, 14, 15, 16, 17, 18, 19, 20, 21, 22, 23, 24, 25, 26], [26])])
def spec_l24Text_at.B9 : List Nat := [0, 1, 3, 7, 15, 31, 63, 0, 128, 384, 896, 1951, 4095, 8191, 0, 16384, 49152, 114688, 249759, 524287, 1048575, 0, 2097152, 6291456, 14680064, 31969183, 67108863, 134217727]
theorem spec_l24Text_at.tab9 : rtab .any (opsOf Try.f34 9) = spec_l24Text_at.T9 := by kernel_rfl
theorem spec_l24Text_at.bits9 : waitsOk spec_l24Text_at.T9.2 spec_l24Text_at.B9 = true := by kernel_rfl
def spec_l24Text_at.T11 : Bool × List (List Nat × List Nat) := (true, [([], []), ([0], [0]), ([1], [1]), ([2], [2]), ([3], [3]), ([4], [4]), ([5], [5]), ([], []), ([7], [7]), ([8], [8]), ([9], [9]), ([10, 4], [10]), ([6, 11], [6, 11]), ([12, 11, 0, 1, 2, 3, 4, 5, 6, 7, 8, 9, 10, 11, 12], [12])])
def spec_l24Text_at.B11 : List Nat := [0, 1, 3, 7, 15, 31, 63, 0, 128, 384, 896, 1951, 4095, 8191]
theorem spec_l24Text_at.tab11 : rtab .any (opsOf Try.f34 11) = spec_l24Text_at.T11 := by kernel_rfl
theorem spec_l24Text_at.bits11 : waitsOk spec_l24Text_at.T11.2 spec_l24Text_at.B11 = true := by kernel_rfl
def spec_l24Text_at.T13 : Bool × List (List Nat × List Nat) := (true, [([], []), ([0], [0]), ([1], [1]), ([2], [2]), ([3], [3]), ([4], [4]), ([5], [5]), ([6], [6]), ([], []), ([8], [8]), ([9], [9]), ([10], [10]), ([11], [11]), ([12], [12]), ([7, 13], [7, 13]), ([14], [14]), ([], []), ([16], [16]), ([17], [17]), ([18], [18]), ([15, 19], [15, 19]), ([20, 0, 1, 2, 3, 4, 5, 6, 7, 8, 9, 10, 11, 12, 13, 14, 15, 16, 17, 18, 19, 20], [20])])
def spec_l24Text_at.B13 : List Nat := [0, 1, 3, 7, 15, 31, 63, 127, 0, 256, 768, 1792, 3840, 7936, 16383, 32767, 0, 65536, 196608, 458752, 1048575, 2097151]
theorem spec_l24Text_at.tab13 : rtab .any (opsOf Try.f34 13) = spec_l24Text_at.T13 := by kernel_rfl
theorem spec_l24Text_at.bits13 : waitsOk spec_l24Text_at.T13.2 spec_l24Text_at.B13 = true := by kernel_rfl
def spec_l24Text_at.T15 : Bool × List (List Nat × List Nat) := (true, [([], []), ([0], [0]), ([1], [1]), ([2], [2]), ([3], [3]), ([4], [4]), ([], []), ([6], [6]), ([7], [7]), ([8], [8]), ([9], [9]), ([5, 10], [5, 10]), ([], []), ([12], [12]), ([13], [13]), ([14], [14]), ([15, 10], [15]), ([11, 16], [11, 16]), ([17, 16, 0, 1, 2, 3, 4, 5, 6, 7, 8, 9, 10, 11, 12, 13, 14, 15, 16, 17], [17])])
def spec_l24Text_at.B15 : List Nat := [0, 1, 3, 7, 15, 31, 0, 64, 192, 448, 960, 2047, 0, 4096, 12288, 28672, 63424, 131071, 262143]
theorem spec_l24Text_at.tab15 : rtab .any (opsOf Try.f34 15) = spec_l24Text_at.T15 := by kernel_rfl
theorem spec_l24Text_at.bits15 : waitsOk spec_l24Text_at.T15.2 spec_l24Text_at.B15 = true := by kernel_rfl
set_option maxHeartbeats 8000000 in
set_option maxRecDepth 100000 in
theorem spec_l24Text_at.calls (k : Nat) (p0_ : Addr) (l0_0 : List (S39)) (a0_1 : Int) (r : ByteArray) (w : World) (hP0_ : RPtr k39 ((a0_1 : Int).toNat * 7) w p0_ l0_0 a0_1) (h : spec_l24Text_at.f k l0_0 a0_1 = some r) :
  Calls Try.prog 34 #[.pointer (some p0_)] w fun e w' => e = .returned (.string r) ∧ Below w.heap.size w w' := by
 obtain ⟨ad0_, rfl, hr0_0, hi0_, hj0_⟩ := hP0_
 have hc0_0 : l0_0.length ≤ l0_0.length := Nat.le_refl _
 replace hi0_ := decide_eq_true hi0_
 replace hj0_ := decide_eq_true hj0_
 obtain ⟨ad9000, A9000_2, c9000_2, A9000_3, c9000_3, A9000_4, c9000_4, A9000_5, c9000_5, e9000, HX9000_0, HX9000_1, HX9000_2, HX9000_3, HX9000_4, HX9000_5, HX9000_6, HC9000_2, HR9000_2, HC9000_3, HR9000_3, HC9000_4, HR9000_4, HC9000_5, HR9000_5⟩ := at_T39 hr0_0 a0_1 (of_decide_eq_true hi0_) (of_decide_eq_true hj0_)
 obtain rfl : ad0_ = ad9000 := (by injection e9000)
 replace HX9000_0 := aM HX9000_0
 replace HX9000_1 := aM HX9000_1
 replace HX9000_2 := aM HX9000_2
 replace HX9000_3 := aM HX9000_3
 replace HX9000_4 := aM HX9000_4
 replace HX9000_5 := aM HX9000_5
 replace HX9000_6 := aM HX9000_6
 replace HC9000_2 := aM HC9000_2
 replace HR9000_2 := aM HR9000_2
 replace HC9000_3 := aM HC9000_3
 replace HR9000_3 := aM HR9000_3
 replace HC9000_4 := aM HC9000_4
 replace HR9000_4 := aM HR9000_4
 replace HC9000_5 := aM HC9000_5
 replace HR9000_5 := aM HR9000_5
 have HR0_0 := aM hr0_0
 have HC0_0 := aM hc0_0
 clear hr0_0 hc0_0
 have HB := aM (Below.refl w.heap.size w)
 have H : (if ((rd_T39 l0_0 a0_1).f0) = 1 then (if 6 + ((rd_T39 l0_0 a0_1).f1).size ≤ 9223372036854775807 then (if ((⟨#[99, 108, 97, 115, 115, 32]⟩ : ByteArray) ++ ((rd_T39 l0_0 a0_1).f1)).size + 2 ≤ 9223372036854775807 then ((spec_l24Words.f k ((rd_T39 l0_0 a0_1).f3)).bind fun t203 => (if (((⟨#[99, 108, 97, 115, 115, 32]⟩ : ByteArray) ++ ((rd_T39 l0_0 a0_1).f1)) ++ (⟨#[32, 61]⟩ : ByteArray)).size + t203.size ≤ 9223372036854775807 then (some ((((⟨#[99, 108, 97, 115, 115, 32]⟩ : ByteArray) ++ ((rd_T39 l0_0 a0_1).f1)) ++ (⟨#[32, 61]⟩ : ByteArray)) ++ t203)) else (none))) else (none)) else (none)) else (if ((rd_T39 l0_0 a0_1).f0) = 2 then (if 7 + ((rd_T39 l0_0 a0_1).f1).size ≤ 9223372036854775807 then (some ((⟨#[108, 111, 111, 107, 117, 112, 32]⟩ : ByteArray) ++ ((rd_T39 l0_0 a0_1).f1))) else (none)) else (if ((rd_T39 l0_0 a0_1).f0) = 3 then (if (wrap64 ((((rd_T39 l0_0 a0_1).f2).length : Int) + (((rd_T39 l0_0 a0_1).f4).length : Int))) = 0 then ((spec_l24Words.f k ((rd_T39 l0_0 a0_1).f3)).bind fun t208 => (if 3 + t208.size ≤ 9223372036854775807 then (if ((⟨#[115, 117, 98]⟩ : ByteArray) ++ t208).size + 3 ≤ 9223372036854775807 then ((spec_l24Words.f k ((rd_T39 l0_0 a0_1).f5)).bind fun t210 => (if (((⟨#[115, 117, 98]⟩ : ByteArray) ++ t208) ++ (⟨#[32, 98, 121]⟩ : ByteArray)).size + t210.size ≤ 9223372036854775807 then (some ((((⟨#[115, 117, 98]⟩ : ByteArray) ++ t208) ++ (⟨#[32, 98, 121]⟩ : ByteArray)) ++ t210)) else (none))) else (none)) else (none))) else ((spec_l24Words.f k ((rd_T39 l0_0 a0_1).f2)).bind fun t212 => (if 3 + t212.size ≤ 9223372036854775807 then (if ((⟨#[115, 117, 98]⟩ : ByteArray) ++ t212).size + 2 ≤ 9223372036854775807 then ((spec_l24Words.f k ((rd_T39 l0_0 a0_1).f3)).bind fun t214 => (if (((⟨#[115, 117, 98]⟩ : ByteArray) ++ t212) ++ (⟨#[32, 124]⟩ : ByteArray)).size + t214.size ≤ 9223372036854775807 then (if ((((⟨#[115, 117, 98]⟩ : ByteArray) ++ t212) ++ (⟨#[32, 124]⟩ : ByteArray)) ++ t214).size + 2 ≤ 9223372036854775807 then ((spec_l24Words.f k ((rd_T39 l0_0 a0_1).f4)).bind fun t216 => (if (((((⟨#[115, 117, 98]⟩ : ByteArray) ++ t212) ++ (⟨#[32, 124]⟩ : ByteArray)) ++ t214) ++ (⟨#[32, 124]⟩ : ByteArray)).size + t216.size ≤ 9223372036854775807 then (if ((((((⟨#[115, 117, 98]⟩ : ByteArray) ++ t212) ++ (⟨#[32, 124]⟩ : ByteArray)) ++ t214) ++ (⟨#[32, 124]⟩ : ByteArray)) ++ t216).size + 3 ≤ 9223372036854775807 then ((spec_l24Words.f k ((rd_T39 l0_0 a0_1).f5)).bind fun t218 => (if (((((((⟨#[115, 117, 98]⟩ : ByteArray) ++ t212) ++ (⟨#[32, 124]⟩ : ByteArray)) ++ t214) ++ (⟨#[32, 124]⟩ : ByteArray)) ++ t216) ++ (⟨#[32, 98, 121]⟩ : ByteArray)).size + t218.size ≤ 9223372036854775807 then (some ((((((((⟨#[115, 117, 98]⟩ : ByteArray) ++ t212) ++ (⟨#[32, 124]⟩ : ByteArray)) ++ t214) ++ (⟨#[32, 124]⟩ : ByteArray)) ++ t216) ++ (⟨#[32, 98, 121]⟩ : ByteArray)) ++ t218)) else (none))) else (none)) else (none))) else (none)) else (none))) else (none)) else (none)))) else (if ((rd_T39 l0_0 a0_1).f0) = 5 then ((spec_l24Words.f k ((rd_T39 l0_0 a0_1).f3)).bind fun t220 => (if 4 + t220.size ≤ 9223372036854775807 then (if ((⟨#[107, 101, 114, 110]⟩ : ByteArray) ++ t220).size + 1 ≤ 9223372036854775807 then ((spec_l01Dec.f k ((rd_T39 l0_0 a0_1).f6)).bind fun t222 => (if (((⟨#[107, 101, 114, 110]⟩ : ByteArray) ++ t220) ++ (⟨#[32]⟩ : ByteArray)).size + t222.size ≤ 9223372036854775807 then (some ((((⟨#[107, 101, 114, 110]⟩ : ByteArray) ++ t220) ++ (⟨#[32]⟩ : ByteArray)) ++ t222)) else (none))) else (none)) else (none))) else (if ((rd_T39 l0_0 a0_1).f0) = 6 then (if 0 < (((rd_T39 l0_0 a0_1).f3).length : Int) then (if 5 + (rdOf ByteArray.empty ((rd_T39 l0_0 a0_1).f3) 0).size ≤ 9223372036854775807 then (if ((⟨#[109, 97, 114, 107, 32]⟩ : ByteArray) ++ (rdOf ByteArray.empty ((rd_T39 l0_0 a0_1).f3) 0)).size + 4 ≤ 9223372036854775807 then (if 1 < (((rd_T39 l0_0 a0_1).f3).length : Int) then (if (((⟨#[109, 97, 114, 107, 32]⟩ : ByteArray) ++ (rdOf ByteArray.empty ((rd_T39 l0_0 a0_1).f3) 0)) ++ (⟨#[32, 111, 110, 32]⟩ : ByteArray)).size + (rdOf ByteArray.empty ((rd_T39 l0_0 a0_1).f3) 1).size ≤ 9223372036854775807 then (if ((((⟨#[109, 97, 114, 107, 32]⟩ : ByteArray) ++ (rdOf ByteArray.empty ((rd_T39 l0_0 a0_1).f3) 0)) ++ (⟨#[32, 111, 110, 32]⟩ : ByteArray)) ++ (rdOf ByteArray.empty ((rd_T39 l0_0 a0_1).f3) 1)).size + 4 ≤ 9223372036854775807 then (if (((((⟨#[109, 97, 114, 107, 32]⟩ : ByteArray) ++ (rdOf ByteArray.empty ((rd_T39 l0_0 a0_1).f3) 0)) ++ (⟨#[32, 111, 110, 32]⟩ : ByteArray)) ++ (rdOf ByteArray.empty ((rd_T39 l0_0 a0_1).f3) 1)) ++ (⟨#[32, 97, 116, 32]⟩ : ByteArray)).size + ((rd_T39 l0_0 a0_1).f1).size ≤ 9223372036854775807 then (some ((((((⟨#[109, 97, 114, 107, 32]⟩ : ByteArray) ++ (rdOf ByteArray.empty ((rd_T39 l0_0 a0_1).f3) 0)) ++ (⟨#[32, 111, 110, 32]⟩ : ByteArray)) ++ (rdOf ByteArray.empty ((rd_T39 l0_0 a0_1).f3) 1)) ++ (⟨#[32, 97, 116, 32]⟩ : ByteArray)) ++ ((rd_T39 l0_0 a0_1).f1))) else (none)) else (none)) else (none)) else (none)) else (none)) else (none)) else (none)) else (if ((rd_T39 l0_0 a0_1).f0) = 7 then (if 5 + ((rd_T39 l0_0 a0_1).f1).size ≤ 9223372036854775807 then (if ((⟨#[106, 111, 105, 110, 32]⟩ : ByteArray) ++ ((rd_T39 l0_0 a0_1).f1)).size + 1 ≤ 9223372036854775807 then ((spec_l24Kind.f ((rd_T39 l0_0 a0_1).f6)).bind fun t230 => (if (((⟨#[106, 111, 105, 110, 32]⟩ : ByteArray) ++ ((rd_T39 l0_0 a0_1).f1)) ++ (⟨#[32]⟩ : ByteArray)).size + t230.size ≤ 9223372036854775807 then ((spec_l24Words.f k ((rd_T39 l0_0 a0_1).f5)).bind fun t232 => (if ((((⟨#[106, 111, 105, 110, 32]⟩ : ByteArray) ++ ((rd_T39 l0_0 a0_1).f1)) ++ (⟨#[32]⟩ : ByteArray)) ++ t230).size + t232.size ≤ 9223372036854775807 then (some (((((⟨#[106, 111, 105, 110, 32]⟩ : ByteArray) ++ ((rd_T39 l0_0 a0_1).f1)) ++ (⟨#[32]⟩ : ByteArray)) ++ t230) ++ t232)) else (none))) else (none))) else (none)) else (none)) else (some (⟨#[101, 110, 100]⟩ : ByteArray)))))))) = some r := h
 clear h
 by_cases c2 : ((rd_T39 l0_0 a0_1).f0) = 1
 ·rw [if_pos c2] at H
  have c2b0 : (((rd_T39 l0_0 a0_1).f0) == 1) = true := beq_iff_eq.mpr c2
  have c2b1 : (((rd_T39 l0_0 a0_1).f0) != 1) = false := bne_eq_false_iff_eq.mpr c2
  clear c2
  by_cases c3 : 6 + ((rd_T39 l0_0 a0_1).f1).size ≤ 9223372036854775807
  ·rw [if_pos c3] at H
   have c3b0 := eq_true c3
   have c3b1 : decide (6 + ((rd_T39 l0_0 a0_1).f1).size ≤ 9223372036854775807) = true := decide_eq_true c3
   try have c3b2 : (9223372036854775807 < 6 + ((rd_T39 l0_0 a0_1).f1).size) = False := eq_false (Nat.not_lt.2 c3)
   by_cases c4 : ((⟨#[99, 108, 97, 115, 115, 32]⟩ : ByteArray) ++ ((rd_T39 l0_0 a0_1).f1)).size + 2 ≤ 9223372036854775807
   ·rw [if_pos c4] at H
    have c4b0 := eq_true c4
    have c4b1 : decide (((⟨#[99, 108, 97, 115, 115, 32]⟩ : ByteArray) ++ ((rd_T39 l0_0 a0_1).f1)).size + 2 ≤ 9223372036854775807) = true := decide_eq_true c4
    try have c4b2 : (9223372036854775807 < ((⟨#[99, 108, 97, 115, 115, 32]⟩ : ByteArray) ++ ((rd_T39 l0_0 a0_1).f1)).size + 2) = False := eq_false (Nat.not_lt.2 c4)
    try have c4b3 : (9223372036854775807 < 6 + ((rd_T39 l0_0 a0_1).f1).size + 2) = False := eq_false (Nat.not_lt.2 (by have h_ := c4; simp only [ByteArray.size_append] at h_; exact h_))
    try (have c4b6 := c4b0; simp only [ByteArray.size_append, ByteArray.size_extract, Nat.min_self, Int.natCast_add] at c4b6)
    try (have c4b7 := c4b1; simp only [ByteArray.size_append, ByteArray.size_extract, Nat.min_self, Int.natCast_add] at c4b7)
    replace H := Option.bind_eq_some_iff.mp H
    obtain ⟨t203, A50, H⟩ := H
    replace H : (if (((⟨#[99, 108, 97, 115, 115, 32]⟩ : ByteArray) ++ ((rd_T39 l0_0 a0_1).f1)) ++ (⟨#[32, 61]⟩ : ByteArray)).size + t203.size ≤ 9223372036854775807 then (some ((((⟨#[99, 108, 97, 115, 115, 32]⟩ : ByteArray) ++ ((rd_T39 l0_0 a0_1).f1)) ++ (⟨#[32, 61]⟩ : ByteArray)) ++ t203)) else (none)) = some r := H
    have A5 := aM A50
    clear A50
    by_cases c6 : (((⟨#[99, 108, 97, 115, 115, 32]⟩ : ByteArray) ++ ((rd_T39 l0_0 a0_1).f1)) ++ (⟨#[32, 61]⟩ : ByteArray)).size + t203.size ≤ 9223372036854775807
    ·rw [if_pos c6] at H
     have c6b0 := eq_true c6
     have c6b1 : decide ((((⟨#[99, 108, 97, 115, 115, 32]⟩ : ByteArray) ++ ((rd_T39 l0_0 a0_1).f1)) ++ (⟨#[32, 61]⟩ : ByteArray)).size + t203.size ≤ 9223372036854775807) = true := decide_eq_true c6
     try have c6b2 : (9223372036854775807 < (((⟨#[99, 108, 97, 115, 115, 32]⟩ : ByteArray) ++ ((rd_T39 l0_0 a0_1).f1)) ++ (⟨#[32, 61]⟩ : ByteArray)).size + t203.size) = False := eq_false (Nat.not_lt.2 c6)
     try have c6b3 : (9223372036854775807 < 6 + ((rd_T39 l0_0 a0_1).f1).size + 2 + t203.size) = False := eq_false (Nat.not_lt.2 (by have h_ := c6; simp only [ByteArray.size_append] at h_; exact h_))
     try (have c6b6 := c6b0; simp only [ByteArray.size_append, ByteArray.size_extract, Nat.min_self, Int.natCast_add] at c6b6)
     try (have c6b7 := c6b1; simp only [ByteArray.size_append, ByteArray.size_extract, Nat.min_self, Int.natCast_add] at c6b7)
     obtain rfl := Option.some.inj H
     have hx200_0 := HX9000_0.out
     have hx200_1 := HX9000_1.out
     have hx200_2 := HX9000_2.out
     have hx200_3 := HX9000_3.out
     have hx200_4 := HX9000_4.out
     have hx200_5 := HX9000_5.out
     have hx200_6 := HX9000_6.out
     have HR200_2 := HR9000_2
     have HC200_2 := HC9000_2
     have HR200_3 := HR9000_3
     have HC200_3 := HC9000_3
     have HR200_4 := HR9000_4
     have HC200_4 := HC9000_4
     have HR200_5 := HR9000_5
     have HC200_5 := HC9000_5
     go_enter Try.func34, Try.ntmps34
     try go_wp2
     have n0_ := aM (below_drew1 HB.out)
     clear HB
     have HB := n0_
     clear n0_
     have hx201_0 := HX9000_0.out
     have hx201_1 := HX9000_1.out
     have hx201_2 := HX9000_2.out
     have hx201_3 := HX9000_3.out
     have hx201_4 := HX9000_4.out
     have hx201_5 := HX9000_5.out
     have hx201_6 := HX9000_6.out
     have hw201_6 := hx201_6
     have hw201_5 := hx201_5
     have hw201_4 := hx201_4
     have hw201_3 := hx201_3
     have hw201_2 := hx201_2
     have hw201_1 := hx201_1
     have hw201_0 := hx201_0
     replace hx201_0 := cB HB.out hx201_0
     replace hx201_1 := cB HB.out hx201_1
     replace hx201_2 := cB HB.out hx201_2
     replace hx201_3 := cB HB.out hx201_3
     replace hx201_4 := cB HB.out hx201_4
     replace hx201_5 := cB HB.out hx201_5
     replace hx201_6 := cB HB.out hx201_6
     have HR201_2 := HR9000_2
     have HC201_2 := HC9000_2
     have HR201_3 := HR9000_3
     have HC201_3 := HC9000_3
     have HR201_4 := HR9000_4
     have HC201_4 := HC9000_4
     have HR201_5 := HR9000_5
     have HC201_5 := HC9000_5
     have hx202_0 := HX9000_0.out
     have hx202_1 := HX9000_1.out
     have hx202_2 := HX9000_2.out
     have hx202_3 := HX9000_3.out
     have hx202_4 := HX9000_4.out
     have hx202_5 := HX9000_5.out
     have hx202_6 := HX9000_6.out
     have hw202_6 := hx202_6
     have hw202_5 := hx202_5
     have hw202_4 := hx202_4
     have hw202_3 := hx202_3
     have hw202_2 := hx202_2
     have hw202_1 := hx202_1
     have hw202_0 := hx202_0
     replace hx202_0 := cB HB.out hx202_0
     replace hx202_1 := cB HB.out hx202_1
     replace hx202_2 := cB HB.out hx202_2
     replace hx202_3 := cB HB.out hx202_3
     replace hx202_4 := cB HB.out hx202_4
     replace hx202_5 := cB HB.out hx202_5
     replace hx202_6 := cB HB.out hx202_6
     have HR202_2 := HR9000_2
     have HC202_2 := HC9000_2
     have HR202_3 := HR9000_3
     have HC202_3 := HC9000_3
     have HR202_4 := HR9000_4
     have HC202_4 := HC9000_4
     have HR202_5 := HR9000_5
     have HC202_5 := HC9000_5
     refine start_ (n := 13) (S := fun w' => w'.cell? (ad0_.add ((a0_1).toNat * 7)) = some (.int .i64 ((rd_T39 l0_0 a0_1).f0)) ∧ w'.cell? ⟨(ad0_.add ((a0_1).toNat * 7)).block, (ad0_.add ((a0_1).toNat * 7)).off + 1, none⟩ = some (.string ((rd_T39 l0_0 a0_1).f1)) ∧ w'.cell? ⟨(ad0_.add ((a0_1).toNat * 7)).block, (ad0_.add ((a0_1).toNat * 7)).off + 2, none⟩ = some (.slice A9000_2 ((rd_T39 l0_0 a0_1).f2).length c9000_2) ∧ w'.cell? ⟨(ad0_.add ((a0_1).toNat * 7)).block, (ad0_.add ((a0_1).toNat * 7)).off + 3, none⟩ = some (.slice A9000_3 ((rd_T39 l0_0 a0_1).f3).length c9000_3) ∧ w'.cell? ⟨(ad0_.add ((a0_1).toNat * 7)).block, (ad0_.add ((a0_1).toNat * 7)).off + 4, none⟩ = some (.slice A9000_4 ((rd_T39 l0_0 a0_1).f4).length c9000_4) ∧ w'.cell? ⟨(ad0_.add ((a0_1).toNat * 7)).block, (ad0_.add ((a0_1).toNat * 7)).off + 5, none⟩ = some (.slice A9000_5 ((rd_T39 l0_0 a0_1).f5).length c9000_5) ∧ w'.cell? ⟨(ad0_.add ((a0_1).toNat * 7)).block, (ad0_.add ((a0_1).toNat * 7)).off + 6, none⟩ = some (.int .i64 ((rd_T39 l0_0 a0_1).f6)) ∧ w'.cell? (ad0_.add ((a0_1).toNat * 7)) = some (.int .i64 ((rd_T39 l0_0 a0_1).f0)) ∧ w'.cell? ⟨(ad0_.add ((a0_1).toNat * 7)).block, (ad0_.add ((a0_1).toNat * 7)).off + 1, none⟩ = some (.string ((rd_T39 l0_0 a0_1).f1)) ∧ w'.cell? ⟨(ad0_.add ((a0_1).toNat * 7)).block, (ad0_.add ((a0_1).toNat * 7)).off + 2, none⟩ = some (.slice A9000_2 ((rd_T39 l0_0 a0_1).f2).length c9000_2) ∧ w'.cell? ⟨(ad0_.add ((a0_1).toNat * 7)).block, (ad0_.add ((a0_1).toNat * 7)).off + 3, none⟩ = some (.slice A9000_3 ((rd_T39 l0_0 a0_1).f3).length c9000_3) ∧ w'.cell? ⟨(ad0_.add ((a0_1).toNat * 7)).block, (ad0_.add ((a0_1).toNat * 7)).off + 4, none⟩ = some (.slice A9000_4 ((rd_T39 l0_0 a0_1).f4).length c9000_4) ∧ w'.cell? ⟨(ad0_.add ((a0_1).toNat * 7)).block, (ad0_.add ((a0_1).toNat * 7)).off + 5, none⟩ = some (.slice A9000_5 ((rd_T39 l0_0 a0_1).f5).length c9000_5) ∧ w'.cell? ⟨(ad0_.add ((a0_1).toNat * 7)).block, (ad0_.add ((a0_1).toNat * 7)).off + 6, none⟩ = some (.int .i64 ((rd_T39 l0_0 a0_1).f6))) (ds := []) mkspec_l464_79 (by kernel_rfl) rfl rfl ⟨(cB HB.out hw201_0), (cB HB.out hw201_1), (cB HB.out hw201_2), (cB HB.out hw201_3), (cB HB.out hw201_4), (cB HB.out hw201_5), (cB HB.out hw201_6), (cB HB.out hw202_0), (cB HB.out hw202_1), (cB HB.out hw202_2), (cB HB.out hw202_3), (cB HB.out hw202_4), (cB HB.out hw202_5), (cB HB.out hw202_6)⟩ (fun hHeld => ?_); refine with_tabW spec_l24Text_at.tab3 spec_l24Text_at.bits3 (fun HT_ HW_ => ?_)
     generalize w.drew = w7 at HB HR201_2 HR201_3 HR201_4 HR201_5 HR202_2 HR202_3 HR202_4 HR202_5 hx201_0 hx201_1 hx201_2 hx201_3 hx201_4 hx201_5 hx201_6 hx202_0 hx202_1 hx202_2 hx202_3 hx202_4 hx202_5 hx202_6 hHeld ⊢
     refine pQ (i := 0) (N := some 9) mkspec_l464_81 ?_
     refine pQ (i := 1) (N := some 10) mkspec_l464_83 ?_
     refine pQ (i := 2) (N := some 11) mkspec_l464_85 ?_
     refine pQ (i := 6) (N := some 15) mkspec_l464_87 ?_
     refine pQ (i := 7) (N := some 16) mkspec_l464_89 ?_
     refine pQ (i := 8) (N := some 17) mkspec_l464_91 ?_
     refine tQ (i := 3) (N := some 12) mkspec_l464_93 rfl hHeld (Or.inl ⟨by rfl, by rintro w' ⟨s0, s1, s2, s3, s4, s5, s6, s7, s8, s9, s10, s11, s12, s13⟩; go_simp; with_reducible rfl⟩) ?_
     refine pQ (i := 4) (N := some 13) mkspec_l464_96 ?_
     refine pQ (i := 5) (N := some 14) mkspec_l464_98 ?_
     refine tQ (i := 9) (N := some 18) mkspec_l464_100 rfl hHeld (Or.inl ⟨by rfl, by rintro w' ⟨s0, s1, s2, s3, s4, s5, s6, s7, s8, s9, s10, s11, s12, s13⟩; go_simp; with_reducible rfl⟩) ?_
     refine one_ (i := 10) (N := some 19) mkspec_l464_102 rfl rfl (one_of HT_.out (by kernel_rfl)) (by decide) (fun K hK => ?_)
     refine goes_ Try.func56 (by kernel_rfl) rfl #[.slice A9000_3 ((rd_T39 l0_0 a0_1).f3).length c9000_3] (by rfl) rfl rfl gQ ?_
     with_reducible refine (spec_l24Words.calls k _ _ ((rd_T39 l0_0 a0_1).f3) t203 _ ?side1 ?side2 A5.out).mono ?_
     (case side1 => exact cQ HR202_3.out)
     (case side2 => exact HC202_3.out)
     rintro e w' ⟨rfl, ⟨nd, rfl⟩⟩
     refine ⟨_, rfl, ?_⟩
     refine hK.out _ _ ⟨(cB HB.out hw201_0), (cB HB.out hw201_1), (cB HB.out hw201_2), (cB HB.out hw201_3), (cB HB.out hw201_4), (cB HB.out hw201_5), (cB HB.out hw201_6), (cB HB.out hw202_0), (cB HB.out hw202_1), (cB HB.out hw202_2), (cB HB.out hw202_3), (cB HB.out hw202_4), (cB HB.out hw202_5), (cB HB.out hw202_6)⟩ (fun hHeld => ?_)
     clear hK K
     refine norm_ (a' := ?_) ?_ ?_
     rotate_left
     ·show Act.put _ (some 19) _ = _
      simp only [Act.put, sI, sZ, sS, i64_w, i32_w]
      rfl
     refine pQ (i := 11) (N := some 20) mkspec_l464_104 ?_
     refine pQ (i := 12) (N := some 2) mkspec_l464_106 ?_
     refine done_ (done_of HT_.out (by kernel_rfl)) ?_
     try go_wp2
     go_ret
     exact ⟨eQ, bQ⟩
    ·rw [if_neg c6] at H
     exact absurd H (by simp)
   ·rw [if_neg c4] at H
    exact absurd H (by simp)
  ·rw [if_neg c3] at H
   exact absurd H (by simp)
 ·rw [if_neg c2] at H
  have c2b0 : (((rd_T39 l0_0 a0_1).f0) == 1) = false := beq_eq_false_iff_ne.mpr c2
  have c2b1 : (((rd_T39 l0_0 a0_1).f0) != 1) = true := bne_iff_ne.mpr c2
  by_cases c8 : ((rd_T39 l0_0 a0_1).f0) = 2
  ·rw [if_pos c8] at H
   have c8b0 : (((rd_T39 l0_0 a0_1).f0) == 2) = true := beq_iff_eq.mpr c8
   have c8b1 : (((rd_T39 l0_0 a0_1).f0) != 2) = false := bne_eq_false_iff_eq.mpr c8
   clear c8
   by_cases c9 : 7 + ((rd_T39 l0_0 a0_1).f1).size ≤ 9223372036854775807
   ·rw [if_pos c9] at H
    have c9b0 := eq_true c9
    have c9b1 : decide (7 + ((rd_T39 l0_0 a0_1).f1).size ≤ 9223372036854775807) = true := decide_eq_true c9
    try have c9b2 : (9223372036854775807 < 7 + ((rd_T39 l0_0 a0_1).f1).size) = False := eq_false (Nat.not_lt.2 c9)
    obtain rfl := Option.some.inj H
    have hx200_0 := HX9000_0.out
    have hx200_1 := HX9000_1.out
    have hx200_2 := HX9000_2.out
    have hx200_3 := HX9000_3.out
    have hx200_4 := HX9000_4.out
    have hx200_5 := HX9000_5.out
    have hx200_6 := HX9000_6.out
    have HR200_2 := HR9000_2
    have HC200_2 := HC9000_2
    have HR200_3 := HR9000_3
    have HC200_3 := HC9000_3
    have HR200_4 := HR9000_4
    have HC200_4 := HC9000_4
    have HR200_5 := HR9000_5
    have HC200_5 := HC9000_5
    have hx204_0 := HX9000_0.out
    have hx204_1 := HX9000_1.out
    have hx204_2 := HX9000_2.out
    have hx204_3 := HX9000_3.out
    have hx204_4 := HX9000_4.out
    have hx204_5 := HX9000_5.out
    have hx204_6 := HX9000_6.out
    have HR204_2 := HR9000_2
    have HC204_2 := HC9000_2
    have HR204_3 := HR9000_3
    have HC204_3 := HC9000_3
    have HR204_4 := HR9000_4
    have HC204_4 := HC9000_4
    have HR204_5 := HR9000_5
    have HC204_5 := HC9000_5
    go_enter Try.func34, Try.ntmps34
    go_wp2
    go_ret
    exact ⟨eQ, bQ⟩
   ·rw [if_neg c9] at H
    exact absurd H (by simp)
  ·rw [if_neg c8] at H
   have c8b0 : (((rd_T39 l0_0 a0_1).f0) == 2) = false := beq_eq_false_iff_ne.mpr c8
   have c8b1 : (((rd_T39 l0_0 a0_1).f0) != 2) = true := bne_iff_ne.mpr c8
   by_cases c10 : ((rd_T39 l0_0 a0_1).f0) = 3
   ·rw [if_pos c10] at H
    have c10b0 : (((rd_T39 l0_0 a0_1).f0) == 3) = true := beq_iff_eq.mpr c10
    have c10b1 : (((rd_T39 l0_0 a0_1).f0) != 3) = false := bne_eq_false_iff_eq.mpr c10
    clear c10
    by_cases c11 : (wrap64 ((((rd_T39 l0_0 a0_1).f2).length : Int) + (((rd_T39 l0_0 a0_1).f4).length : Int))) = 0
    ·rw [if_pos c11] at H
     have c11b0 : ((wrap64 ((((rd_T39 l0_0 a0_1).f2).length : Int) + (((rd_T39 l0_0 a0_1).f4).length : Int))) == 0) = true := beq_iff_eq.mpr c11
     have c11b1 : ((wrap64 ((((rd_T39 l0_0 a0_1).f2).length : Int) + (((rd_T39 l0_0 a0_1).f4).length : Int))) != 0) = false := bne_eq_false_iff_eq.mpr c11
     clear c11
     replace H := Option.bind_eq_some_iff.mp H
     obtain ⟨t208, A120, H⟩ := H
     replace H : (if 3 + t208.size ≤ 9223372036854775807 then (if ((⟨#[115, 117, 98]⟩ : ByteArray) ++ t208).size + 3 ≤ 9223372036854775807 then ((spec_l24Words.f k ((rd_T39 l0_0 a0_1).f5)).bind fun t210 => (if (((⟨#[115, 117, 98]⟩ : ByteArray) ++ t208) ++ (⟨#[32, 98, 121]⟩ : ByteArray)).size + t210.size ≤ 9223372036854775807 then (some ((((⟨#[115, 117, 98]⟩ : ByteArray) ++ t208) ++ (⟨#[32, 98, 121]⟩ : ByteArray)) ++ t210)) else (none))) else (none)) else (none)) = some r := H
     have A12 := aM A120
     clear A120
     by_cases c13 : 3 + t208.size ≤ 9223372036854775807
     ·rw [if_pos c13] at H
      have c13b0 := eq_true c13
      have c13b1 : decide (3 + t208.size ≤ 9223372036854775807) = true := decide_eq_true c13
      try have c13b2 : (9223372036854775807 < 3 + t208.size) = False := eq_false (Nat.not_lt.2 c13)
      by_cases c14 : ((⟨#[115, 117, 98]⟩ : ByteArray) ++ t208).size + 3 ≤ 9223372036854775807
      ·rw [if_pos c14] at H
       have c14b0 := eq_true c14
       have c14b1 : decide (((⟨#[115, 117, 98]⟩ : ByteArray) ++ t208).size + 3 ≤ 9223372036854775807) = true := decide_eq_true c14
       try have c14b2 : (9223372036854775807 < ((⟨#[115, 117, 98]⟩ : ByteArray) ++ t208).size + 3) = False := eq_false (Nat.not_lt.2 c14)
       try have c14b3 : (9223372036854775807 < 3 + t208.size + 3) = False := eq_false (Nat.not_lt.2 (by have h_ := c14; simp only [ByteArray.size_append] at h_; exact h_))
       try (have c14b6 := c14b0; simp only [ByteArray.size_append, ByteArray.size_extract, Nat.min_self, Int.natCast_add] at c14b6)
       try (have c14b7 := c14b1; simp only [ByteArray.size_append, ByteArray.size_extract, Nat.min_self, Int.natCast_add] at c14b7)
       replace H := Option.bind_eq_some_iff.mp H
       obtain ⟨t210, A150, H⟩ := H
       replace H : (if (((⟨#[115, 117, 98]⟩ : ByteArray) ++ t208) ++ (⟨#[32, 98, 121]⟩ : ByteArray)).size + t210.size ≤ 9223372036854775807 then (some ((((⟨#[115, 117, 98]⟩ : ByteArray) ++ t208) ++ (⟨#[32, 98, 121]⟩ : ByteArray)) ++ t210)) else (none)) = some r := H
       have A15 := aM A150
       clear A150
       by_cases c16 : (((⟨#[115, 117, 98]⟩ : ByteArray) ++ t208) ++ (⟨#[32, 98, 121]⟩ : ByteArray)).size + t210.size ≤ 9223372036854775807
       ·rw [if_pos c16] at H
        have c16b0 := eq_true c16
        have c16b1 : decide ((((⟨#[115, 117, 98]⟩ : ByteArray) ++ t208) ++ (⟨#[32, 98, 121]⟩ : ByteArray)).size + t210.size ≤ 9223372036854775807) = true := decide_eq_true c16
        try have c16b2 : (9223372036854775807 < (((⟨#[115, 117, 98]⟩ : ByteArray) ++ t208) ++ (⟨#[32, 98, 121]⟩ : ByteArray)).size + t210.size) = False := eq_false (Nat.not_lt.2 c16)
        try have c16b3 : (9223372036854775807 < 3 + t208.size + 3 + t210.size) = False := eq_false (Nat.not_lt.2 (by have h_ := c16; simp only [ByteArray.size_append] at h_; exact h_))
        try (have c16b6 := c16b0; simp only [ByteArray.size_append, ByteArray.size_extract, Nat.min_self, Int.natCast_add] at c16b6)
        try (have c16b7 := c16b1; simp only [ByteArray.size_append, ByteArray.size_extract, Nat.min_self, Int.natCast_add] at c16b7)
        obtain rfl := Option.some.inj H
        have hx200_0 := HX9000_0.out
        have hx200_1 := HX9000_1.out
        have hx200_2 := HX9000_2.out
        have hx200_3 := HX9000_3.out
        have hx200_4 := HX9000_4.out
        have hx200_5 := HX9000_5.out
        have hx200_6 := HX9000_6.out
        have HR200_2 := HR9000_2
        have HC200_2 := HC9000_2
        have HR200_3 := HR9000_3
        have HC200_3 := HC9000_3
        have HR200_4 := HR9000_4
        have HC200_4 := HC9000_4
        have HR200_5 := HR9000_5
        have HC200_5 := HC9000_5
        go_enter Try.func34, Try.ntmps34
        try go_wp2
        have n0_ := aM (below_drew1 HB.out)
        clear HB
        have HB := n0_
        clear n0_
        have hx205_0 := HX9000_0.out
        have hx205_1 := HX9000_1.out
        have hx205_2 := HX9000_2.out
        have hx205_3 := HX9000_3.out
        have hx205_4 := HX9000_4.out
        have hx205_5 := HX9000_5.out
        have hx205_6 := HX9000_6.out
        have hw205_6 := hx205_6
        have hw205_5 := hx205_5
        have hw205_4 := hx205_4
        have hw205_3 := hx205_3
        have hw205_2 := hx205_2
        have hw205_1 := hx205_1
        have hw205_0 := hx205_0
        replace hx205_0 := cB HB.out hx205_0
        replace hx205_1 := cB HB.out hx205_1
        replace hx205_2 := cB HB.out hx205_2
        replace hx205_3 := cB HB.out hx205_3
        replace hx205_4 := cB HB.out hx205_4
        replace hx205_5 := cB HB.out hx205_5
        replace hx205_6 := cB HB.out hx205_6
        have HR205_2 := HR9000_2
        have HC205_2 := HC9000_2
        have HR205_3 := HR9000_3
        have HC205_3 := HC9000_3
        have HR205_4 := HR9000_4
        have HC205_4 := HC9000_4
        have HR205_5 := HR9000_5
        have HC205_5 := HC9000_5
        have hx206_0 := HX9000_0.out
        have hx206_1 := HX9000_1.out
        have hx206_2 := HX9000_2.out
        have hx206_3 := HX9000_3.out
        have hx206_4 := HX9000_4.out
        have hx206_5 := HX9000_5.out
        have hx206_6 := HX9000_6.out
        have hw206_6 := hx206_6
        have hw206_5 := hx206_5
        have hw206_4 := hx206_4
        have hw206_3 := hx206_3
        have hw206_2 := hx206_2
        have hw206_1 := hx206_1
        have hw206_0 := hx206_0
        replace hx206_0 := cB HB.out hx206_0
        replace hx206_1 := cB HB.out hx206_1
        replace hx206_2 := cB HB.out hx206_2
        replace hx206_3 := cB HB.out hx206_3
        replace hx206_4 := cB HB.out hx206_4
        replace hx206_5 := cB HB.out hx206_5
        replace hx206_6 := cB HB.out hx206_6
        have HR206_2 := HR9000_2
        have HC206_2 := HC9000_2
        have HR206_3 := HR9000_3
        have HC206_3 := HC9000_3
        have HR206_4 := HR9000_4
        have HC206_4 := HC9000_4
        have HR206_5 := HR9000_5
        have HC206_5 := HC9000_5
        refine start_ (n := 12) (S := fun w' => w'.cell? (ad0_.add ((a0_1).toNat * 7)) = some (.int .i64 ((rd_T39 l0_0 a0_1).f0)) ∧ w'.cell? ⟨(ad0_.add ((a0_1).toNat * 7)).block, (ad0_.add ((a0_1).toNat * 7)).off + 1, none⟩ = some (.string ((rd_T39 l0_0 a0_1).f1)) ∧ w'.cell? ⟨(ad0_.add ((a0_1).toNat * 7)).block, (ad0_.add ((a0_1).toNat * 7)).off + 2, none⟩ = some (.slice A9000_2 ((rd_T39 l0_0 a0_1).f2).length c9000_2) ∧ w'.cell? ⟨(ad0_.add ((a0_1).toNat * 7)).block, (ad0_.add ((a0_1).toNat * 7)).off + 3, none⟩ = some (.slice A9000_3 ((rd_T39 l0_0 a0_1).f3).length c9000_3) ∧ w'.cell? ⟨(ad0_.add ((a0_1).toNat * 7)).block, (ad0_.add ((a0_1).toNat * 7)).off + 4, none⟩ = some (.slice A9000_4 ((rd_T39 l0_0 a0_1).f4).length c9000_4) ∧ w'.cell? ⟨(ad0_.add ((a0_1).toNat * 7)).block, (ad0_.add ((a0_1).toNat * 7)).off + 5, none⟩ = some (.slice A9000_5 ((rd_T39 l0_0 a0_1).f5).length c9000_5) ∧ w'.cell? ⟨(ad0_.add ((a0_1).toNat * 7)).block, (ad0_.add ((a0_1).toNat * 7)).off + 6, none⟩ = some (.int .i64 ((rd_T39 l0_0 a0_1).f6)) ∧ w'.cell? (ad0_.add ((a0_1).toNat * 7)) = some (.int .i64 ((rd_T39 l0_0 a0_1).f0)) ∧ w'.cell? ⟨(ad0_.add ((a0_1).toNat * 7)).block, (ad0_.add ((a0_1).toNat * 7)).off + 1, none⟩ = some (.string ((rd_T39 l0_0 a0_1).f1)) ∧ w'.cell? ⟨(ad0_.add ((a0_1).toNat * 7)).block, (ad0_.add ((a0_1).toNat * 7)).off + 2, none⟩ = some (.slice A9000_2 ((rd_T39 l0_0 a0_1).f2).length c9000_2) ∧ w'.cell? ⟨(ad0_.add ((a0_1).toNat * 7)).block, (ad0_.add ((a0_1).toNat * 7)).off + 3, none⟩ = some (.slice A9000_3 ((rd_T39 l0_0 a0_1).f3).length c9000_3) ∧ w'.cell? ⟨(ad0_.add ((a0_1).toNat * 7)).block, (ad0_.add ((a0_1).toNat * 7)).off + 4, none⟩ = some (.slice A9000_4 ((rd_T39 l0_0 a0_1).f4).length c9000_4) ∧ w'.cell? ⟨(ad0_.add ((a0_1).toNat * 7)).block, (ad0_.add ((a0_1).toNat * 7)).off + 5, none⟩ = some (.slice A9000_5 ((rd_T39 l0_0 a0_1).f5).length c9000_5) ∧ w'.cell? ⟨(ad0_.add ((a0_1).toNat * 7)).block, (ad0_.add ((a0_1).toNat * 7)).off + 6, none⟩ = some (.int .i64 ((rd_T39 l0_0 a0_1).f6))) (ds := []) mkspec_l464_94 (by kernel_rfl) rfl rfl ⟨(cB HB.out hw205_0), (cB HB.out hw205_1), (cB HB.out hw205_2), (cB HB.out hw205_3), (cB HB.out hw205_4), (cB HB.out hw205_5), (cB HB.out hw205_6), (cB HB.out hw206_0), (cB HB.out hw206_1), (cB HB.out hw206_2), (cB HB.out hw206_3), (cB HB.out hw206_4), (cB HB.out hw206_5), (cB HB.out hw206_6)⟩ (fun hHeld => ?_); refine with_tabW spec_l24Text_at.tab7 spec_l24Text_at.bits7 (fun HT_ HW_ => ?_)
        generalize w.drew = w17 at HB HR205_2 HR205_3 HR205_4 HR205_5 HR206_2 HR206_3 HR206_4 HR206_5 hx205_0 hx205_1 hx205_2 hx205_3 hx205_4 hx205_5 hx205_6 hx206_0 hx206_1 hx206_2 hx206_3 hx206_4 hx206_5 hx206_6 hHeld ⊢
        refine pQ (i := 0) (N := some 30) mkspec_l464_97 ?_
        refine pQ (i := 1) (N := some 31) mkspec_l464_99 ?_
        refine pQ (i := 2) (N := some 32) mkspec_l464_101 ?_
        refine pQ (i := 5) (N := some 35) mkspec_l464_103 ?_
        refine pQ (i := 6) (N := some 36) mkspec_l464_105 ?_
        refine pQ (i := 7) (N := some 37) mkspec_l464_107 ?_
        refine tQ (i := 3) (N := some 33) mkspec_l464_108 rfl hHeld (Or.inl ⟨by rfl, by rintro w' ⟨s0, s1, s2, s3, s4, s5, s6, s7, s8, s9, s10, s11, s12, s13⟩; go_simp; with_reducible rfl⟩) ?_
        refine pQ (i := 4) (N := some 34) mkspec_l464_109 ?_
        refine tQ (i := 8) (N := some 38) mkspec_l464_110 rfl hHeld (Or.inl ⟨by rfl, by rintro w' ⟨s0, s1, s2, s3, s4, s5, s6, s7, s8, s9, s10, s11, s12, s13⟩; go_simp; with_reducible rfl⟩) ?_
        refine pQ (i := 9) (N := some 39) mkspec_l464_111 ?_
        refine pQ (i := 10) (N := some 40) mkspec_l464_112 ?_
        refine pQ (i := 11) (N := some 41) mkspec_l464_113 ?_
        refine done_ (done_of HT_.out (by kernel_rfl)) ?_
        try go_wp2
        have n0_ := aM (below_drew1 HB.out)
        clear HB
        have HB := n0_
        clear n0_
        have hx207_0 := HX9000_0.out
        have hx207_1 := HX9000_1.out
        have hx207_2 := HX9000_2.out
        have hx207_3 := HX9000_3.out
        have hx207_4 := HX9000_4.out
        have hx207_5 := HX9000_5.out
        have hx207_6 := HX9000_6.out
        have hw207_6 := hx207_6
        have hw207_5 := hx207_5
        have hw207_4 := hx207_4
        have hw207_3 := hx207_3
        have hw207_2 := hx207_2
        have hw207_1 := hx207_1
        have hw207_0 := hx207_0
        replace hx207_0 := cB HB.out hx207_0
        replace hx207_1 := cB HB.out hx207_1
        replace hx207_2 := cB HB.out hx207_2
        replace hx207_3 := cB HB.out hx207_3
        replace hx207_4 := cB HB.out hx207_4
        replace hx207_5 := cB HB.out hx207_5
        replace hx207_6 := cB HB.out hx207_6
        have HR207_2 := HR9000_2
        have HC207_2 := HC9000_2
        have HR207_3 := HR9000_3
        have HC207_3 := HC9000_3
        have HR207_4 := HR9000_4
        have HC207_4 := HC9000_4
        have HR207_5 := HR9000_5
        have HC207_5 := HC9000_5
        have hx209_0 := HX9000_0.out
        have hx209_1 := HX9000_1.out
        have hx209_2 := HX9000_2.out
        have hx209_3 := HX9000_3.out
        have hx209_4 := HX9000_4.out
        have hx209_5 := HX9000_5.out
        have hx209_6 := HX9000_6.out
        have hw209_6 := hx209_6
        have hw209_5 := hx209_5
        have hw209_4 := hx209_4
        have hw209_3 := hx209_3
        have hw209_2 := hx209_2
        have hw209_1 := hx209_1
        have hw209_0 := hx209_0
        replace hx209_0 := cB HB.out hx209_0
        replace hx209_1 := cB HB.out hx209_1
        replace hx209_2 := cB HB.out hx209_2
        replace hx209_3 := cB HB.out hx209_3
        replace hx209_4 := cB HB.out hx209_4
        replace hx209_5 := cB HB.out hx209_5
        replace hx209_6 := cB HB.out hx209_6
        have HR209_2 := HR9000_2
        have HC209_2 := HC9000_2
        have HR209_3 := HR9000_3
        have HC209_3 := HC9000_3
        have HR209_4 := HR9000_4
        have HC209_4 := HC9000_4
        have HR209_5 := HR9000_5
        have HC209_5 := HC9000_5
        refine start_ (n := 14) (S := fun w' => w'.cell? (ad0_.add ((a0_1).toNat * 7)) = some (.int .i64 ((rd_T39 l0_0 a0_1).f0)) ∧ w'.cell? ⟨(ad0_.add ((a0_1).toNat * 7)).block, (ad0_.add ((a0_1).toNat * 7)).off + 1, none⟩ = some (.string ((rd_T39 l0_0 a0_1).f1)) ∧ w'.cell? ⟨(ad0_.add ((a0_1).toNat * 7)).block, (ad0_.add ((a0_1).toNat * 7)).off + 2, none⟩ = some (.slice A9000_2 ((rd_T39 l0_0 a0_1).f2).length c9000_2) ∧ w'.cell? ⟨(ad0_.add ((a0_1).toNat * 7)).block, (ad0_.add ((a0_1).toNat * 7)).off + 3, none⟩ = some (.slice A9000_3 ((rd_T39 l0_0 a0_1).f3).length c9000_3) ∧ w'.cell? ⟨(ad0_.add ((a0_1).toNat * 7)).block, (ad0_.add ((a0_1).toNat * 7)).off + 4, none⟩ = some (.slice A9000_4 ((rd_T39 l0_0 a0_1).f4).length c9000_4) ∧ w'.cell? ⟨(ad0_.add ((a0_1).toNat * 7)).block, (ad0_.add ((a0_1).toNat * 7)).off + 5, none⟩ = some (.slice A9000_5 ((rd_T39 l0_0 a0_1).f5).length c9000_5) ∧ w'.cell? ⟨(ad0_.add ((a0_1).toNat * 7)).block, (ad0_.add ((a0_1).toNat * 7)).off + 6, none⟩ = some (.int .i64 ((rd_T39 l0_0 a0_1).f6)) ∧ w'.cell? (ad0_.add ((a0_1).toNat * 7)) = some (.int .i64 ((rd_T39 l0_0 a0_1).f0)) ∧ w'.cell? ⟨(ad0_.add ((a0_1).toNat * 7)).block, (ad0_.add ((a0_1).toNat * 7)).off + 1, none⟩ = some (.string ((rd_T39 l0_0 a0_1).f1)) ∧ w'.cell? ⟨(ad0_.add ((a0_1).toNat * 7)).block, (ad0_.add ((a0_1).toNat * 7)).off + 2, none⟩ = some (.slice A9000_2 ((rd_T39 l0_0 a0_1).f2).length c9000_2) ∧ w'.cell? ⟨(ad0_.add ((a0_1).toNat * 7)).block, (ad0_.add ((a0_1).toNat * 7)).off + 3, none⟩ = some (.slice A9000_3 ((rd_T39 l0_0 a0_1).f3).length c9000_3) ∧ w'.cell? ⟨(ad0_.add ((a0_1).toNat * 7)).block, (ad0_.add ((a0_1).toNat * 7)).off + 4, none⟩ = some (.slice A9000_4 ((rd_T39 l0_0 a0_1).f4).length c9000_4) ∧ w'.cell? ⟨(ad0_.add ((a0_1).toNat * 7)).block, (ad0_.add ((a0_1).toNat * 7)).off + 5, none⟩ = some (.slice A9000_5 ((rd_T39 l0_0 a0_1).f5).length c9000_5) ∧ w'.cell? ⟨(ad0_.add ((a0_1).toNat * 7)).block, (ad0_.add ((a0_1).toNat * 7)).off + 6, none⟩ = some (.int .i64 ((rd_T39 l0_0 a0_1).f6))) (ds := []) mkspec_l464_72 (by kernel_rfl) rfl rfl ⟨(cB HB.out hw207_0), (cB HB.out hw207_1), (cB HB.out hw207_2), (cB HB.out hw207_3), (cB HB.out hw207_4), (cB HB.out hw207_5), (cB HB.out hw207_6), (cB HB.out hw209_0), (cB HB.out hw209_1), (cB HB.out hw209_2), (cB HB.out hw209_3), (cB HB.out hw209_4), (cB HB.out hw209_5), (cB HB.out hw209_6)⟩ (fun hHeld => ?_); refine with_tabW spec_l24Text_at.tab8 spec_l24Text_at.bits8 (fun HT_ HW_ => ?_)
        generalize w17.drew = w18 at HB HR207_2 HR207_3 HR207_4 HR207_5 HR209_2 HR209_3 HR209_4 HR209_5 hx207_0 hx207_1 hx207_2 hx207_3 hx207_4 hx207_5 hx207_6 hx209_0 hx209_1 hx209_2 hx209_3 hx209_4 hx209_5 hx209_6 hHeld ⊢
        refine pQ (i := 0) (N := some 42) mkspec_l464_73 ?_
        refine pQ (i := 1) (N := some 43) mkspec_l464_74 ?_
        refine pQ (i := 2) (N := some 44) mkspec_l464_75 ?_
        refine pQ (i := 7) (N := some 49) mkspec_l464_76 ?_
        refine pQ (i := 8) (N := some 50) mkspec_l464_77 ?_
        refine pQ (i := 9) (N := some 51) mkspec_l464_78 ?_
        refine tQ (i := 3) (N := some 45) mkspec_l464_80 rfl hHeld (Or.inl ⟨by rfl, by rintro w' ⟨s0, s1, s2, s3, s4, s5, s6, s7, s8, s9, s10, s11, s12, s13⟩; go_simp; with_reducible rfl⟩) ?_
        refine tQ (i := 10) (N := some 52) mkspec_l464_82 rfl hHeld (Or.inl ⟨by rfl, by rintro w' ⟨s0, s1, s2, s3, s4, s5, s6, s7, s8, s9, s10, s11, s12, s13⟩; go_simp; with_reducible rfl⟩) ?_
        refine one_ (i := 4) (N := some 46) mkspec_l464_84 rfl rfl (one_of HT_.out (by kernel_rfl)) (by decide) (fun K hK => ?_)
        refine goes_ Try.func56 (by kernel_rfl) rfl #[.slice A9000_3 ((rd_T39 l0_0 a0_1).f3).length c9000_3] (by rfl) rfl rfl gQ ?_
        with_reducible refine (spec_l24Words.calls k _ _ ((rd_T39 l0_0 a0_1).f3) t208 _ ?side1 ?side2 A12.out).mono ?_
        (case side1 => exact cQ HR207_3.out)
        (case side2 => exact HC207_3.out)
        rintro e w' ⟨rfl, ⟨nd, rfl⟩⟩
        refine ⟨_, rfl, ?_⟩
        refine hK.out _ _ ⟨(cB HB.out hw207_0), (cB HB.out hw207_1), (cB HB.out hw207_2), (cB HB.out hw207_3), (cB HB.out hw207_4), (cB HB.out hw207_5), (cB HB.out hw207_6), (cB HB.out hw209_0), (cB HB.out hw209_1), (cB HB.out hw209_2), (cB HB.out hw209_3), (cB HB.out hw209_4), (cB HB.out hw209_5), (cB HB.out hw209_6)⟩ (fun hHeld => ?_)
        clear hK K
        refine norm_ (a' := ?_) ?_ ?_
        rotate_left
        ·show Act.put _ (some 46) _ = _
         simp only [Act.put, sI, sZ, sS, i64_w, i32_w]
         rfl
        refine pQ (i := 5) (N := some 47) mkspec_l464_86 ?_
        refine pQ (i := 6) (N := some 48) mkspec_l464_88 ?_
        refine one_ (i := 11) (N := some 53) mkspec_l464_90 rfl rfl (one_of HT_.out (by kernel_rfl)) (by decide) (fun K hK => ?_)
        refine goes_ Try.func56 (by kernel_rfl) rfl #[.slice A9000_5 ((rd_T39 l0_0 a0_1).f5).length c9000_5] (by rfl) rfl rfl gQ ?_
        with_reducible refine (spec_l24Words.calls k _ _ ((rd_T39 l0_0 a0_1).f5) t210 _ ?side1 ?side2 A15.out).mono ?_
        (case side1 => exact cQ HR209_5.out)
        (case side2 => exact HC209_5.out)
        rintro e w' ⟨rfl, ⟨nd, rfl⟩⟩
        refine ⟨_, rfl, ?_⟩
        refine hK.out _ _ ⟨(cB HB.out hw207_0), (cB HB.out hw207_1), (cB HB.out hw207_2), (cB HB.out hw207_3), (cB HB.out hw207_4), (cB HB.out hw207_5), (cB HB.out hw207_6), (cB HB.out hw209_0), (cB HB.out hw209_1), (cB HB.out hw209_2), (cB HB.out hw209_3), (cB HB.out hw209_4), (cB HB.out hw209_5), (cB HB.out hw209_6)⟩ (fun hHeld => ?_)
        clear hK K
        refine norm_ (a' := ?_) ?_ ?_
        rotate_left
        ·show Act.put _ (some 53) _ = _
         simp only [Act.put, sI, sZ, sS, i64_w, i32_w]
         rfl
        refine pQ (i := 12) (N := some 54) mkspec_l464_92 ?_
        refine pQ (i := 13) (N := some 2) mkspec_l464_95 ?_
        refine done_ (done_of HT_.out (by kernel_rfl)) ?_
        try go_wp2
        go_ret
        exact ⟨eQ, bQ⟩
       ·rw [if_neg c16] at H
        exact absurd H (by simp)
      ·rw [if_neg c14] at H
       exact absurd H (by simp)
     ·rw [if_neg c13] at H
      exact absurd H (by simp)
    ·rw [if_neg c11] at H
     have c11b0 : ((wrap64 ((((rd_T39 l0_0 a0_1).f2).length : Int) + (((rd_T39 l0_0 a0_1).f4).length : Int))) == 0) = false := beq_eq_false_iff_ne.mpr c11
     have c11b1 : ((wrap64 ((((rd_T39 l0_0 a0_1).f2).length : Int) + (((rd_T39 l0_0 a0_1).f4).length : Int))) != 0) = true := bne_iff_ne.mpr c11
     replace H := Option.bind_eq_some_iff.mp H
     obtain ⟨t212, A190, H⟩ := H
     replace H : (if 3 + t212.size ≤ 9223372036854775807 then (if ((⟨#[115, 117, 98]⟩ : ByteArray) ++ t212).size + 2 ≤ 9223372036854775807 then ((spec_l24Words.f k ((rd_T39 l0_0 a0_1).f3)).bind fun t214 => (if (((⟨#[115, 117, 98]⟩ : ByteArray) ++ t212) ++ (⟨#[32, 124]⟩ : ByteArray)).size + t214.size ≤ 9223372036854775807 then (if ((((⟨#[115, 117, 98]⟩ : ByteArray) ++ t212) ++ (⟨#[32, 124]⟩ : ByteArray)) ++ t214).size + 2 ≤ 9223372036854775807 then ((spec_l24Words.f k ((rd_T39 l0_0 a0_1).f4)).bind fun t216 => (if (((((⟨#[115, 117, 98]⟩ : ByteArray) ++ t212) ++ (⟨#[32, 124]⟩ : ByteArray)) ++ t214) ++ (⟨#[32, 124]⟩ : ByteArray)).size + t216.size ≤ 9223372036854775807 then (if ((((((⟨#[115, 117, 98]⟩ : ByteArray) ++ t212) ++ (⟨#[32, 124]⟩ : ByteArray)) ++ t214) ++ (⟨#[32, 124]⟩ : ByteArray)) ++ t216).size + 3 ≤ 9223372036854775807 then ((spec_l24Words.f k ((rd_T39 l0_0 a0_1).f5)).bind fun t218 => (if (((((((⟨#[115, 117, 98]⟩ : ByteArray) ++ t212) ++ (⟨#[32, 124]⟩ : ByteArray)) ++ t214) ++ (⟨#[32, 124]⟩ : ByteArray)) ++ t216) ++ (⟨#[32, 98, 121]⟩ : ByteArray)).size + t218.size ≤ 9223372036854775807 then (some ((((((((⟨#[115, 117, 98]⟩ : ByteArray) ++ t212) ++ (⟨#[32, 124]⟩ : ByteArray)) ++ t214) ++ (⟨#[32, 124]⟩ : ByteArray)) ++ t216) ++ (⟨#[32, 98, 121]⟩ : ByteArray)) ++ t218)) else (none))) else (none)) else (none))) else (none)) else (none))) else (none)) else (none)) = some r := H
     have A19 := aM A190
     clear A190
     by_cases c20 : 3 + t212.size ≤ 9223372036854775807
     ·rw [if_pos c20] at H
      have c20b0 := eq_true c20
      have c20b1 : decide (3 + t212.size ≤ 9223372036854775807) = true := decide_eq_true c20
      try have c20b2 : (9223372036854775807 < 3 + t212.size) = False := eq_false (Nat.not_lt.2 c20)
      by_cases c21 : ((⟨#[115, 117, 98]⟩ : ByteArray) ++ t212).size + 2 ≤ 9223372036854775807
      ·rw [if_pos c21] at H
       have c21b0 := eq_true c21
       have c21b1 : decide (((⟨#[115, 117, 98]⟩ : ByteArray) ++ t212).size + 2 ≤ 9223372036854775807) = true := decide_eq_true c21
       try have c21b2 : (9223372036854775807 < ((⟨#[115, 117, 98]⟩ : ByteArray) ++ t212).size + 2) = False := eq_false (Nat.not_lt.2 c21)
       try have c21b3 : (9223372036854775807 < 3 + t212.size + 2) = False := eq_false (Nat.not_lt.2 (by have h_ := c21; simp only [ByteArray.size_append] at h_; exact h_))
       try (have c21b6 := c21b0; simp only [ByteArray.size_append, ByteArray.size_extract, Nat.min_self, Int.natCast_add] at c21b6)
       try (have c21b7 := c21b1; simp only [ByteArray.size_append, ByteArray.size_extract, Nat.min_self, Int.natCast_add] at c21b7)
       replace H := Option.bind_eq_some_iff.mp H
       obtain ⟨t214, A220, H⟩ := H
       replace H : (if (((⟨#[115, 117, 98]⟩ : ByteArray) ++ t212) ++ (⟨#[32, 124]⟩ : ByteArray)).size + t214.size ≤ 9223372036854775807 then (if ((((⟨#[115, 117, 98]⟩ : ByteArray) ++ t212) ++ (⟨#[32, 124]⟩ : ByteArray)) ++ t214).size + 2 ≤ 9223372036854775807 then ((spec_l24Words.f k ((rd_T39 l0_0 a0_1).f4)).bind fun t216 => (if (((((⟨#[115, 117, 98]⟩ : ByteArray) ++ t212) ++ (⟨#[32, 124]⟩ : ByteArray)) ++ t214) ++ (⟨#[32, 124]⟩ : ByteArray)).size + t216.size ≤ 9223372036854775807 then (if ((((((⟨#[115, 117, 98]⟩ : ByteArray) ++ t212) ++ (⟨#[32, 124]⟩ : ByteArray)) ++ t214) ++ (⟨#[32, 124]⟩ : ByteArray)) ++ t216).size + 3 ≤ 9223372036854775807 then ((spec_l24Words.f k ((rd_T39 l0_0 a0_1).f5)).bind fun t218 => (if (((((((⟨#[115, 117, 98]⟩ : ByteArray) ++ t212) ++ (⟨#[32, 124]⟩ : ByteArray)) ++ t214) ++ (⟨#[32, 124]⟩ : ByteArray)) ++ t216) ++ (⟨#[32, 98, 121]⟩ : ByteArray)).size + t218.size ≤ 9223372036854775807 then (some ((((((((⟨#[115, 117, 98]⟩ : ByteArray) ++ t212) ++ (⟨#[32, 124]⟩ : ByteArray)) ++ t214) ++ (⟨#[32, 124]⟩ : ByteArray)) ++ t216) ++ (⟨#[32, 98, 121]⟩ : ByteArray)) ++ t218)) else (none))) else (none)) else (none))) else (none)) else (none)) = some r := H
       have A22 := aM A220
       clear A220
       by_cases c23 : (((⟨#[115, 117, 98]⟩ : ByteArray) ++ t212) ++ (⟨#[32, 124]⟩ : ByteArray)).size + t214.size ≤ 9223372036854775807
       ·rw [if_pos c23] at H
        have c23b0 := eq_true c23
        have c23b1 : decide ((((⟨#[115, 117, 98]⟩ : ByteArray) ++ t212) ++ (⟨#[32, 124]⟩ : ByteArray)).size + t214.size ≤ 9223372036854775807) = true := decide_eq_true c23
        try have c23b2 : (9223372036854775807 < (((⟨#[115, 117, 98]⟩ : ByteArray) ++ t212) ++ (⟨#[32, 124]⟩ : ByteArray)).size + t214.size) = False := eq_false (Nat.not_lt.2 c23)
        try have c23b3 : (9223372036854775807 < 3 + t212.size + 2 + t214.size) = False := eq_false (Nat.not_lt.2 (by have h_ := c23; simp only [ByteArray.size_append] at h_; exact h_))
        try (have c23b6 := c23b0; simp only [ByteArray.size_append, ByteArray.size_extract, Nat.min_self, Int.natCast_add] at c23b6)
        try (have c23b7 := c23b1; simp only [ByteArray.size_append, ByteArray.size_extract, Nat.min_self, Int.natCast_add] at c23b7)
        by_cases c24 : ((((⟨#[115, 117, 98]⟩ : ByteArray) ++ t212) ++ (⟨#[32, 124]⟩ : ByteArray)) ++ t214).size + 2 ≤ 9223372036854775807
        ·rw [if_pos c24] at H
         have c24b0 := eq_true c24
         have c24b1 : decide (((((⟨#[115, 117, 98]⟩ : ByteArray) ++ t212) ++ (⟨#[32, 124]⟩ : ByteArray)) ++ t214).size + 2 ≤ 9223372036854775807) = true := decide_eq_true c24
         try have c24b2 : (9223372036854775807 < ((((⟨#[115, 117, 98]⟩ : ByteArray) ++ t212) ++ (⟨#[32, 124]⟩ : ByteArray)) ++ t214).size + 2) = False := eq_false (Nat.not_lt.2 c24)
         try have c24b3 : (9223372036854775807 < 3 + t212.size + 2 + t214.size + 2) = False := eq_false (Nat.not_lt.2 (by have h_ := c24; simp only [ByteArray.size_append] at h_; exact h_))
         try (have c24b6 := c24b0; simp only [ByteArray.size_append, ByteArray.size_extract, Nat.min_self, Int.natCast_add] at c24b6)
         try (have c24b7 := c24b1; simp only [ByteArray.size_append, ByteArray.size_extract, Nat.min_self, Int.natCast_add] at c24b7)
         replace H := Option.bind_eq_some_iff.mp H
         obtain ⟨t216, A250, H⟩ := H
         replace H : (if (((((⟨#[115, 117, 98]⟩ : ByteArray) ++ t212) ++ (⟨#[32, 124]⟩ : ByteArray)) ++ t214) ++ (⟨#[32, 124]⟩ : ByteArray)).size + t216.size ≤ 9223372036854775807 then (if ((((((⟨#[115, 117, 98]⟩ : ByteArray) ++ t212) ++ (⟨#[32, 124]⟩ : ByteArray)) ++ t214) ++ (⟨#[32, 124]⟩ : ByteArray)) ++ t216).size + 3 ≤ 9223372036854775807 then ((spec_l24Words.f k ((rd_T39 l0_0 a0_1).f5)).bind fun t218 => (if (((((((⟨#[115, 117, 98]⟩ : ByteArray) ++ t212) ++ (⟨#[32, 124]⟩ : ByteArray)) ++ t214) ++ (⟨#[32, 124]⟩ : ByteArray)) ++ t216) ++ (⟨#[32, 98, 121]⟩ : ByteArray)).size + t218.size ≤ 9223372036854775807 then (some ((((((((⟨#[115, 117, 98]⟩ : ByteArray) ++ t212) ++ (⟨#[32, 124]⟩ : ByteArray)) ++ t214) ++ (⟨#[32, 124]⟩ : ByteArray)) ++ t216) ++ (⟨#[32, 98, 121]⟩ : ByteArray)) ++ t218)) else (none))) else (none)) else (none)) = some r := H
         have A25 := aM A250
         clear A250
         by_cases c26 : (((((⟨#[115, 117, 98]⟩ : ByteArray) ++ t212) ++ (⟨#[32, 124]⟩ : ByteArray)) ++ t214) ++ (⟨#[32, 124]⟩ : ByteArray)).size + t216.size ≤ 9223372036854775807
         ·rw [if_pos c26] at H
          have c26b0 := eq_true c26
          have c26b1 : decide ((((((⟨#[115, 117, 98]⟩ : ByteArray) ++ t212) ++ (⟨#[32, 124]⟩ : ByteArray)) ++ t214) ++ (⟨#[32, 124]⟩ : ByteArray)).size + t216.size ≤ 9223372036854775807) = true := decide_eq_true c26
          try have c26b2 : (9223372036854775807 < (((((⟨#[115, 117, 98]⟩ : ByteArray) ++ t212) ++ (⟨#[32, 124]⟩ : ByteArray)) ++ t214) ++ (⟨#[32, 124]⟩ : ByteArray)).size + t216.size) = False := eq_false (Nat.not_lt.2 c26)
          try have c26b3 : (9223372036854775807 < 3 + t212.size + 2 + t214.size + 2 + t216.size) = False := eq_false (Nat.not_lt.2 (by have h_ := c26; simp only [ByteArray.size_append] at h_; exact h_))
          try (have c26b6 := c26b0; simp only [ByteArray.size_append, ByteArray.size_extract, Nat.min_self, Int.natCast_add] at c26b6)
          try (have c26b7 := c26b1; simp only [ByteArray.size_append, ByteArray.size_extract, Nat.min_self, Int.natCast_add] at c26b7)
          by_cases c27 : ((((((⟨#[115, 117, 98]⟩ : ByteArray) ++ t212) ++ (⟨#[32, 124]⟩ : ByteArray)) ++ t214) ++ (⟨#[32, 124]⟩ : ByteArray)) ++ t216).size + 3 ≤ 9223372036854775807
          ·rw [if_pos c27] at H
           have c27b0 := eq_true c27
           have c27b1 : decide (((((((⟨#[115, 117, 98]⟩ : ByteArray) ++ t212) ++ (⟨#[32, 124]⟩ : ByteArray)) ++ t214) ++ (⟨#[32, 124]⟩ : ByteArray)) ++ t216).size + 3 ≤ 9223372036854775807) = true := decide_eq_true c27
           try have c27b2 : (9223372036854775807 < ((((((⟨#[115, 117, 98]⟩ : ByteArray) ++ t212) ++ (⟨#[32, 124]⟩ : ByteArray)) ++ t214) ++ (⟨#[32, 124]⟩ : ByteArray)) ++ t216).size + 3) = False := eq_false (Nat.not_lt.2 c27)
           try have c27b3 : (9223372036854775807 < 3 + t212.size + 2 + t214.size + 2 + t216.size + 3) = False := eq_false (Nat.not_lt.2 (by have h_ := c27; simp only [ByteArray.size_append] at h_; exact h_))
           try (have c27b6 := c27b0; simp only [ByteArray.size_append, ByteArray.size_extract, Nat.min_self, Int.natCast_add] at c27b6)
           try (have c27b7 := c27b1; simp only [ByteArray.size_append, ByteArray.size_extract, Nat.min_self, Int.natCast_add] at c27b7)
           replace H := Option.bind_eq_some_iff.mp H
           obtain ⟨t218, A280, H⟩ := H
           replace H : (if (((((((⟨#[115, 117, 98]⟩ : ByteArray) ++ t212) ++ (⟨#[32, 124]⟩ : ByteArray)) ++ t214) ++ (⟨#[32, 124]⟩ : ByteArray)) ++ t216) ++ (⟨#[32, 98, 121]⟩ : ByteArray)).size + t218.size ≤ 9223372036854775807 then (some ((((((((⟨#[115, 117, 98]⟩ : ByteArray) ++ t212) ++ (⟨#[32, 124]⟩ : ByteArray)) ++ t214) ++ (⟨#[32, 124]⟩ : ByteArray)) ++ t216) ++ (⟨#[32, 98, 121]⟩ : ByteArray)) ++ t218)) else (none)) = some r := H
           have A28 := aM A280
           clear A280
           by_cases c29 : (((((((⟨#[115, 117, 98]⟩ : ByteArray) ++ t212) ++ (⟨#[32, 124]⟩ : ByteArray)) ++ t214) ++ (⟨#[32, 124]⟩ : ByteArray)) ++ t216) ++ (⟨#[32, 98, 121]⟩ : ByteArray)).size + t218.size ≤ 9223372036854775807
           ·rw [if_pos c29] at H
            have c29b0 := eq_true c29
            have c29b1 : decide ((((((((⟨#[115, 117, 98]⟩ : ByteArray) ++ t212) ++ (⟨#[32, 124]⟩ : ByteArray)) ++ t214) ++ (⟨#[32, 124]⟩ : ByteArray)) ++ t216) ++ (⟨#[32, 98, 121]⟩ : ByteArray)).size + t218.size ≤ 9223372036854775807) = true := decide_eq_true c29
            try have c29b2 : (9223372036854775807 < (((((((⟨#[115, 117, 98]⟩ : ByteArray) ++ t212) ++ (⟨#[32, 124]⟩ : ByteArray)) ++ t214) ++ (⟨#[32, 124]⟩ : ByteArray)) ++ t216) ++ (⟨#[32, 98, 121]⟩ : ByteArray)).size + t218.size) = False := eq_false (Nat.not_lt.2 c29)
            try have c29b3 : (9223372036854775807 < 3 + t212.size + 2 + t214.size + 2 + t216.size + 3 + t218.size) = False := eq_false (Nat.not_lt.2 (by have h_ := c29; simp only [ByteArray.size_append] at h_; exact h_))
            try (have c29b6 := c29b0; simp only [ByteArray.size_append, ByteArray.size_extract, Nat.min_self, Int.natCast_add] at c29b6)
            try (have c29b7 := c29b1; simp only [ByteArray.size_append, ByteArray.size_extract, Nat.min_self, Int.natCast_add] at c29b7)
            obtain rfl := Option.some.inj H
            have hx200_0 := HX9000_0.out
            have hx200_1 := HX9000_1.out
            have hx200_2 := HX9000_2.out
            have hx200_3 := HX9000_3.out
            have hx200_4 := HX9000_4.out
            have hx200_5 := HX9000_5.out
            have hx200_6 := HX9000_6.out
            have HR200_2 := HR9000_2
            have HC200_2 := HC9000_2
            have HR200_3 := HR9000_3
            have HC200_3 := HC9000_3
            have HR200_4 := HR9000_4
            have HC200_4 := HC9000_4
            have HR200_5 := HR9000_5
            have HC200_5 := HC9000_5
            go_enter Try.func34, Try.ntmps34
            try go_wp2
            have n0_ := aM (below_drew1 HB.out)
            clear HB
            have HB := n0_
            clear n0_
            have hx205_0 := HX9000_0.out
            have hx205_1 := HX9000_1.out
            have hx205_2 := HX9000_2.out
            have hx205_3 := HX9000_3.out
            have hx205_4 := HX9000_4.out
            have hx205_5 := HX9000_5.out
            have hx205_6 := HX9000_6.out
            have hw205_6 := hx205_6
            have hw205_5 := hx205_5
            have hw205_4 := hx205_4
            have hw205_3 := hx205_3
            have hw205_2 := hx205_2
            have hw205_1 := hx205_1
            have hw205_0 := hx205_0
            replace hx205_0 := cB HB.out hx205_0
            replace hx205_1 := cB HB.out hx205_1
            replace hx205_2 := cB HB.out hx205_2
            replace hx205_3 := cB HB.out hx205_3
            replace hx205_4 := cB HB.out hx205_4
            replace hx205_5 := cB HB.out hx205_5
            replace hx205_6 := cB HB.out hx205_6
            have HR205_2 := HR9000_2
            have HC205_2 := HC9000_2
            have HR205_3 := HR9000_3
            have HC205_3 := HC9000_3
            have HR205_4 := HR9000_4
            have HC205_4 := HC9000_4
            have HR205_5 := HR9000_5
            have HC205_5 := HC9000_5
            have hx206_0 := HX9000_0.out
            have hx206_1 := HX9000_1.out
            have hx206_2 := HX9000_2.out
            have hx206_3 := HX9000_3.out
            have hx206_4 := HX9000_4.out
            have hx206_5 := HX9000_5.out
            have hx206_6 := HX9000_6.out
            have hw206_6 := hx206_6
            have hw206_5 := hx206_5
            have hw206_4 := hx206_4
            have hw206_3 := hx206_3
            have hw206_2 := hx206_2
            have hw206_1 := hx206_1
            have hw206_0 := hx206_0
            replace hx206_0 := cB HB.out hx206_0
            replace hx206_1 := cB HB.out hx206_1
            replace hx206_2 := cB HB.out hx206_2
            replace hx206_3 := cB HB.out hx206_3
            replace hx206_4 := cB HB.out hx206_4
            replace hx206_5 := cB HB.out hx206_5
            replace hx206_6 := cB HB.out hx206_6
            have HR206_2 := HR9000_2
            have HC206_2 := HC9000_2
            have HR206_3 := HR9000_3
            have HC206_3 := HC9000_3
            have HR206_4 := HR9000_4
            have HC206_4 := HC9000_4
            have HR206_5 := HR9000_5
            have HC206_5 := HC9000_5
            refine start_ (n := 12) (S := fun w' => w'.cell? (ad0_.add ((a0_1).toNat * 7)) = some (.int .i64 ((rd_T39 l0_0 a0_1).f0)) ∧ w'.cell? ⟨(ad0_.add ((a0_1).toNat * 7)).block, (ad0_.add ((a0_1).toNat * 7)).off + 1, none⟩ = some (.string ((rd_T39 l0_0 a0_1).f1)) ∧ w'.cell? ⟨(ad0_.add ((a0_1).toNat * 7)).block, (ad0_.add ((a0_1).toNat * 7)).off + 2, none⟩ = some (.slice A9000_2 ((rd_T39 l0_0 a0_1).f2).length c9000_2) ∧ w'.cell? ⟨(ad0_.add ((a0_1).toNat * 7)).block, (ad0_.add ((a0_1).toNat * 7)).off + 3, none⟩ = some (.slice A9000_3 ((rd_T39 l0_0 a0_1).f3).length c9000_3) ∧ w'.cell? ⟨(ad0_.add ((a0_1).toNat * 7)).block, (ad0_.add ((a0_1).toNat * 7)).off + 4, none⟩ = some (.slice A9000_4 ((rd_T39 l0_0 a0_1).f4).length c9000_4) ∧ w'.cell? ⟨(ad0_.add ((a0_1).toNat * 7)).block, (ad0_.add ((a0_1).toNat * 7)).off + 5, none⟩ = some (.slice A9000_5 ((rd_T39 l0_0 a0_1).f5).length c9000_5) ∧ w'.cell? ⟨(ad0_.add ((a0_1).toNat * 7)).block, (ad0_.add ((a0_1).toNat * 7)).off + 6, none⟩ = some (.int .i64 ((rd_T39 l0_0 a0_1).f6)) ∧ w'.cell? (ad0_.add ((a0_1).toNat * 7)) = some (.int .i64 ((rd_T39 l0_0 a0_1).f0)) ∧ w'.cell? ⟨(ad0_.add ((a0_1).toNat * 7)).block, (ad0_.add ((a0_1).toNat * 7)).off + 1, none⟩ = some (.string ((rd_T39 l0_0 a0_1).f1)) ∧ w'.cell? ⟨(ad0_.add ((a0_1).toNat * 7)).block, (ad0_.add ((a0_1).toNat * 7)).off + 2, none⟩ = some (.slice A9000_2 ((rd_T39 l0_0 a0_1).f2).length c9000_2) ∧ w'.cell? ⟨(ad0_.add ((a0_1).toNat * 7)).block, (ad0_.add ((a0_1).toNat * 7)).off + 3, none⟩ = some (.slice A9000_3 ((rd_T39 l0_0 a0_1).f3).length c9000_3) ∧ w'.cell? ⟨(ad0_.add ((a0_1).toNat * 7)).block, (ad0_.add ((a0_1).toNat * 7)).off + 4, none⟩ = some (.slice A9000_4 ((rd_T39 l0_0 a0_1).f4).length c9000_4) ∧ w'.cell? ⟨(ad0_.add ((a0_1).toNat * 7)).block, (ad0_.add ((a0_1).toNat * 7)).off + 5, none⟩ = some (.slice A9000_5 ((rd_T39 l0_0 a0_1).f5).length c9000_5) ∧ w'.cell? ⟨(ad0_.add ((a0_1).toNat * 7)).block, (ad0_.add ((a0_1).toNat * 7)).off + 6, none⟩ = some (.int .i64 ((rd_T39 l0_0 a0_1).f6))) (ds := []) mkspec_l464_94 (by kernel_rfl) rfl rfl ⟨(cB HB.out hw205_0), (cB HB.out hw205_1), (cB HB.out hw205_2), (cB HB.out hw205_3), (cB HB.out hw205_4), (cB HB.out hw205_5), (cB HB.out hw205_6), (cB HB.out hw206_0), (cB HB.out hw206_1), (cB HB.out hw206_2), (cB HB.out hw206_3), (cB HB.out hw206_4), (cB HB.out hw206_5), (cB HB.out hw206_6)⟩ (fun hHeld => ?_); refine with_tabW spec_l24Text_at.tab7 spec_l24Text_at.bits7 (fun HT_ HW_ => ?_)
            generalize w.drew = w30 at HB HR205_2 HR205_3 HR205_4 HR205_5 HR206_2 HR206_3 HR206_4 HR206_5 hx205_0 hx205_1 hx205_2 hx205_3 hx205_4 hx205_5 hx205_6 hx206_0 hx206_1 hx206_2 hx206_3 hx206_4 hx206_5 hx206_6 hHeld ⊢
            refine pQ (i := 0) (N := some 30) mkspec_l464_97 ?_
            refine pQ (i := 1) (N := some 31) mkspec_l464_99 ?_
            refine pQ (i := 2) (N := some 32) mkspec_l464_101 ?_
            refine pQ (i := 5) (N := some 35) mkspec_l464_103 ?_
            refine pQ (i := 6) (N := some 36) mkspec_l464_105 ?_
            refine pQ (i := 7) (N := some 37) mkspec_l464_107 ?_
            refine tQ (i := 3) (N := some 33) mkspec_l464_108 rfl hHeld (Or.inl ⟨by rfl, by rintro w' ⟨s0, s1, s2, s3, s4, s5, s6, s7, s8, s9, s10, s11, s12, s13⟩; go_simp; with_reducible rfl⟩) ?_
            refine pQ (i := 4) (N := some 34) mkspec_l464_109 ?_
            refine tQ (i := 8) (N := some 38) mkspec_l464_110 rfl hHeld (Or.inl ⟨by rfl, by rintro w' ⟨s0, s1, s2, s3, s4, s5, s6, s7, s8, s9, s10, s11, s12, s13⟩; go_simp; with_reducible rfl⟩) ?_
            refine pQ (i := 9) (N := some 39) mkspec_l464_111 ?_
            refine pQ (i := 10) (N := some 40) mkspec_l464_112 ?_
            refine pQ (i := 11) (N := some 41) mkspec_l464_113 ?_
            refine done_ (done_of HT_.out (by kernel_rfl)) ?_
            try go_wp2
            have n0_ := aM (below_drew1 HB.out)
            clear HB
            have HB := n0_
            clear n0_
            have hx211_0 := HX9000_0.out
            have hx211_1 := HX9000_1.out
            have hx211_2 := HX9000_2.out
            have hx211_3 := HX9000_3.out
            have hx211_4 := HX9000_4.out
            have hx211_5 := HX9000_5.out
            have hx211_6 := HX9000_6.out
            have hw211_6 := hx211_6
            have hw211_5 := hx211_5
            have hw211_4 := hx211_4
            have hw211_3 := hx211_3
            have hw211_2 := hx211_2
            have hw211_1 := hx211_1
            have hw211_0 := hx211_0
            replace hx211_0 := cB HB.out hx211_0
            replace hx211_1 := cB HB.out hx211_1
            replace hx211_2 := cB HB.out hx211_2
            replace hx211_3 := cB HB.out hx211_3
            replace hx211_4 := cB HB.out hx211_4
            replace hx211_5 := cB HB.out hx211_5
            replace hx211_6 := cB HB.out hx211_6
            have HR211_2 := HR9000_2
            have HC211_2 := HC9000_2
            have HR211_3 := HR9000_3
            have HC211_3 := HC9000_3
            have HR211_4 := HR9000_4
            have HC211_4 := HC9000_4
            have HR211_5 := HR9000_5
            have HC211_5 := HC9000_5
            have hx213_0 := HX9000_0.out
            have hx213_1 := HX9000_1.out
            have hx213_2 := HX9000_2.out
            have hx213_3 := HX9000_3.out
            have hx213_4 := HX9000_4.out
            have hx213_5 := HX9000_5.out
            have hx213_6 := HX9000_6.out
            have hw213_6 := hx213_6
            have hw213_5 := hx213_5
            have hw213_4 := hx213_4
            have hw213_3 := hx213_3
            have hw213_2 := hx213_2
            have hw213_1 := hx213_1
            have hw213_0 := hx213_0
            replace hx213_0 := cB HB.out hx213_0
            replace hx213_1 := cB HB.out hx213_1
            replace hx213_2 := cB HB.out hx213_2
            replace hx213_3 := cB HB.out hx213_3
            replace hx213_4 := cB HB.out hx213_4
            replace hx213_5 := cB HB.out hx213_5
            replace hx213_6 := cB HB.out hx213_6
            have HR213_2 := HR9000_2
            have HC213_2 := HC9000_2
            have HR213_3 := HR9000_3
            have HC213_3 := HC9000_3
            have HR213_4 := HR9000_4
            have HC213_4 := HC9000_4
            have HR213_5 := HR9000_5
            have HC213_5 := HC9000_5
            have hx215_0 := HX9000_0.out
            have hx215_1 := HX9000_1.out
            have hx215_2 := HX9000_2.out
            have hx215_3 := HX9000_3.out
            have hx215_4 := HX9000_4.out
            have hx215_5 := HX9000_5.out
            have hx215_6 := HX9000_6.out
            have hw215_6 := hx215_6
            have hw215_5 := hx215_5
            have hw215_4 := hx215_4
            have hw215_3 := hx215_3
            have hw215_2 := hx215_2
            have hw215_1 := hx215_1
            have hw215_0 := hx215_0
            replace hx215_0 := cB HB.out hx215_0
            replace hx215_1 := cB HB.out hx215_1
            replace hx215_2 := cB HB.out hx215_2
            replace hx215_3 := cB HB.out hx215_3
            replace hx215_4 := cB HB.out hx215_4
            replace hx215_5 := cB HB.out hx215_5
            replace hx215_6 := cB HB.out hx215_6
            have HR215_2 := HR9000_2
            have HC215_2 := HC9000_2
            have HR215_3 := HR9000_3
            have HC215_3 := HC9000_3
            have HR215_4 := HR9000_4
            have HC215_4 := HC9000_4
            have HR215_5 := HR9000_5
            have HC215_5 := HC9000_5
            have hx217_0 := HX9000_0.out
            have hx217_1 := HX9000_1.out
            have hx217_2 := HX9000_2.out
            have hx217_3 := HX9000_3.out
            have hx217_4 := HX9000_4.out
            have hx217_5 := HX9000_5.out
            have hx217_6 := HX9000_6.out
            have hw217_6 := hx217_6
            have hw217_5 := hx217_5
            have hw217_4 := hx217_4
            have hw217_3 := hx217_3
            have hw217_2 := hx217_2
            have hw217_1 := hx217_1
            have hw217_0 := hx217_0
            replace hx217_0 := cB HB.out hx217_0
            replace hx217_1 := cB HB.out hx217_1
            replace hx217_2 := cB HB.out hx217_2
            replace hx217_3 := cB HB.out hx217_3
            replace hx217_4 := cB HB.out hx217_4
            replace hx217_5 := cB HB.out hx217_5
            replace hx217_6 := cB HB.out hx217_6
            have HR217_2 := HR9000_2
            have HC217_2 := HC9000_2
            have HR217_3 := HR9000_3
            have HC217_3 := HC9000_3
            have HR217_4 := HR9000_4
            have HC217_4 := HC9000_4
            have HR217_5 := HR9000_5
            have HC217_5 := HC9000_5
            refine start_ (n := 28) (S := fun w' => w'.cell? (ad0_.add ((a0_1).toNat * 7)) = some (.int .i64 ((rd_T39 l0_0 a0_1).f0)) ∧ w'.cell? ⟨(ad0_.add ((a0_1).toNat * 7)).block, (ad0_.add ((a0_1).toNat * 7)).off + 1, none⟩ = some (.string ((rd_T39 l0_0 a0_1).f1)) ∧ w'.cell? ⟨(ad0_.add ((a0_1).toNat * 7)).block, (ad0_.add ((a0_1).toNat * 7)).off + 2, none⟩ = some (.slice A9000_2 ((rd_T39 l0_0 a0_1).f2).length c9000_2) ∧ w'.cell? ⟨(ad0_.add ((a0_1).toNat * 7)).block, (ad0_.add ((a0_1).toNat * 7)).off + 3, none⟩ = some (.slice A9000_3 ((rd_T39 l0_0 a0_1).f3).length c9000_3) ∧ w'.cell? ⟨(ad0_.add ((a0_1).toNat * 7)).block, (ad0_.add ((a0_1).toNat * 7)).off + 4, none⟩ = some (.slice A9000_4 ((rd_T39 l0_0 a0_1).f4).length c9000_4) ∧ w'.cell? ⟨(ad0_.add ((a0_1).toNat * 7)).block, (ad0_.add ((a0_1).toNat * 7)).off + 5, none⟩ = some (.slice A9000_5 ((rd_T39 l0_0 a0_1).f5).length c9000_5) ∧ w'.cell? ⟨(ad0_.add ((a0_1).toNat * 7)).block, (ad0_.add ((a0_1).toNat * 7)).off + 6, none⟩ = some (.int .i64 ((rd_T39 l0_0 a0_1).f6)) ∧ w'.cell? (ad0_.add ((a0_1).toNat * 7)) = some (.int .i64 ((rd_T39 l0_0 a0_1).f0)) ∧ w'.cell? ⟨(ad0_.add ((a0_1).toNat * 7)).block, (ad0_.add ((a0_1).toNat * 7)).off + 1, none⟩ = some (.string ((rd_T39 l0_0 a0_1).f1)) ∧ w'.cell? ⟨(ad0_.add ((a0_1).toNat * 7)).block, (ad0_.add ((a0_1).toNat * 7)).off + 2, none⟩ = some (.slice A9000_2 ((rd_T39 l0_0 a0_1).f2).length c9000_2) ∧ w'.cell? ⟨(ad0_.add ((a0_1).toNat * 7)).block, (ad0_.add ((a0_1).toNat * 7)).off + 3, none⟩ = some (.slice A9000_3 ((rd_T39 l0_0 a0_1).f3).length c9000_3) ∧ w'.cell? ⟨(ad0_.add ((a0_1).toNat * 7)).block, (ad0_.add ((a0_1).toNat * 7)).off + 4, none⟩ = some (.slice A9000_4 ((rd_T39 l0_0 a0_1).f4).length c9000_4) ∧ w'.cell? ⟨(ad0_.add ((a0_1).toNat * 7)).block, (ad0_.add ((a0_1).toNat * 7)).off + 5, none⟩ = some (.slice A9000_5 ((rd_T39 l0_0 a0_1).f5).length c9000_5) ∧ w'.cell? ⟨(ad0_.add ((a0_1).toNat * 7)).block, (ad0_.add ((a0_1).toNat * 7)).off + 6, none⟩ = some (.int .i64 ((rd_T39 l0_0 a0_1).f6)) ∧ w'.cell? (ad0_.add ((a0_1).toNat * 7)) = some (.int .i64 ((rd_T39 l0_0 a0_1).f0)) ∧ w'.cell? ⟨(ad0_.add ((a0_1).toNat * 7)).block, (ad0_.add ((a0_1).toNat * 7)).off + 1, none⟩ = some (.string ((rd_T39 l0_0 a0_1).f1)) ∧ w'.cell? ⟨(ad0_.add ((a0_1).toNat * 7)).block, (ad0_.add ((a0_1).toNat * 7)).off + 2, none⟩ = some (.slice A9000_2 ((rd_T39 l0_0 a0_1).f2).length c9000_2) ∧ w'.cell? ⟨(ad0_.add ((a0_1).toNat * 7)).block, (ad0_.add ((a0_1).toNat * 7)).off + 3, none⟩ = some (.slice A9000_3 ((rd_T39 l0_0 a0_1).f3).length c9000_3) ∧ w'.cell? ⟨(ad0_.add ((a0_1).toNat * 7)).block, (ad0_.add ((a0_1).toNat * 7)).off + 4, none⟩ = some (.slice A9000_4 ((rd_T39 l0_0 a0_1).f4).length c9000_4) ∧ w'.cell? ⟨(ad0_.add ((a0_1).toNat * 7)).block, (ad0_.add ((a0_1).toNat * 7)).off + 5, none⟩ = some (.slice A9000_5 ((rd_T39 l0_0 a0_1).f5).length c9000_5) ∧ w'.cell? ⟨(ad0_.add ((a0_1).toNat * 7)).block, (ad0_.add ((a0_1).toNat * 7)).off + 6, none⟩ = some (.int .i64 ((rd_T39 l0_0 a0_1).f6)) ∧ w'.cell? (ad0_.add ((a0_1).toNat * 7)) = some (.int .i64 ((rd_T39 l0_0 a0_1).f0)) ∧ w'.cell? ⟨(ad0_.add ((a0_1).toNat * 7)).block, (ad0_.add ((a0_1).toNat * 7)).off + 1, none⟩ = some (.string ((rd_T39 l0_0 a0_1).f1)) ∧ w'.cell? ⟨(ad0_.add ((a0_1).toNat * 7)).block, (ad0_.add ((a0_1).toNat * 7)).off + 2, none⟩ = some (.slice A9000_2 ((rd_T39 l0_0 a0_1).f2).length c9000_2) ∧ w'.cell? ⟨(ad0_.add ((a0_1).toNat * 7)).block, (ad0_.add ((a0_1).toNat * 7)).off + 3, none⟩ = some (.slice A9000_3 ((rd_T39 l0_0 a0_1).f3).length c9000_3) ∧ w'.cell? ⟨(ad0_.add ((a0_1).toNat * 7)).block, (ad0_.add ((a0_1).toNat * 7)).off + 4, none⟩ = some (.slice A9000_4 ((rd_T39 l0_0 a0_1).f4).length c9000_4) ∧ w'.cell? ⟨(ad0_.add ((a0_1).toNat * 7)).block, (ad0_.add ((a0_1).toNat * 7)).off + 5, none⟩ = some (.slice A9000_5 ((rd_T39 l0_0 a0_1).f5).length c9000_5) ∧ w'.cell? ⟨(ad0_.add ((a0_1).toNat * 7)).block, (ad0_.add ((a0_1).toNat * 7)).off + 6, none⟩ = some (.int .i64 ((rd_T39 l0_0 a0_1).f6))) (ds := []) mkspec_l464_0 (by kernel_rfl) rfl rfl ⟨(cB HB.out hw211_0), (cB HB.out hw211_1), (cB HB.out hw211_2), (cB HB.out hw211_3), (cB HB.out hw211_4), (cB HB.out hw211_5), (cB HB.out hw211_6), (cB HB.out hw213_0), (cB HB.out hw213_1), (cB HB.out hw213_2), (cB HB.out hw213_3), (cB HB.out hw213_4), (cB HB.out hw213_5), (cB HB.out hw213_6), (cB HB.out hw215_0), (cB HB.out hw215_1), (cB HB.out hw215_2), (cB HB.out hw215_3), (cB HB.out hw215_4), (cB HB.out hw215_5), (cB HB.out hw215_6), (cB HB.out hw217_0), (cB HB.out hw217_1), (cB HB.out hw217_2), (cB HB.out hw217_3), (cB HB.out hw217_4), (cB HB.out hw217_5), (cB HB.out hw217_6)⟩ (fun hHeld => ?_); refine with_tabW spec_l24Text_at.tab9 spec_l24Text_at.bits9 (fun HT_ HW_ => ?_)
            generalize w30.drew = w31 at HB HR211_2 HR211_3 HR211_4 HR211_5 HR213_2 HR213_3 HR213_4 HR213_5 HR215_2 HR215_3 HR215_4 HR215_5 HR217_2 HR217_3 HR217_4 HR217_5 hx211_0 hx211_1 hx211_2 hx211_3 hx211_4 hx211_5 hx211_6 hx213_0 hx213_1 hx213_2 hx213_3 hx213_4 hx213_5 hx213_6 hx215_0 hx215_1 hx215_2 hx215_3 hx215_4 hx215_5 hx215_6 hx217_0 hx217_1 hx217_2 hx217_3 hx217_4 hx217_5 hx217_6 hHeld ⊢
            refine pQ (i := 0) (N := some 55) mkspec_l464_1 ?_
            refine pQ (i := 1) (N := some 56) mkspec_l464_2 ?_
            refine pQ (i := 2) (N := some 57) mkspec_l464_3 ?_
            refine pQ (i := 7) (N := some 62) mkspec_l464_4 ?_
            refine pQ (i := 8) (N := some 63) mkspec_l464_5 ?_
            refine pQ (i := 9) (N := some 64) mkspec_l464_6 ?_
            refine pQ (i := 14) (N := some 69) mkspec_l464_7 ?_
            refine pQ (i := 15) (N := some 70) mkspec_l464_8 ?_
            refine pQ (i := 16) (N := some 71) mkspec_l464_9 ?_
            refine pQ (i := 21) (N := some 76) mkspec_l464_10 ?_
            refine pQ (i := 22) (N := some 77) mkspec_l464_11 ?_
            refine pQ (i := 23) (N := some 78) mkspec_l464_12 ?_
            refine tQ (i := 3) (N := some 58) mkspec_l464_13 rfl hHeld (Or.inl ⟨by rfl, by rintro w' ⟨s0, s1, s2, s3, s4, s5, s6, s7, s8, s9, s10, s11, s12, s13, s14, s15, s16, s17, s18, s19, s20, s21, s22, s23, s24, s25, s26, s27⟩; go_simp; with_reducible rfl⟩) ?_
            refine tQ (i := 10) (N := some 65) mkspec_l464_14 rfl hHeld (Or.inl ⟨by rfl, by rintro w' ⟨s0, s1, s2, s3, s4, s5, s6, s7, s8, s9, s10, s11, s12, s13, s14, s15, s16, s17, s18, s19, s20, s21, s22, s23, s24, s25, s26, s27⟩; go_simp; with_reducible rfl⟩) ?_
            refine tQ (i := 17) (N := some 72) mkspec_l464_15 rfl hHeld (Or.inl ⟨by rfl, by rintro w' ⟨s0, s1, s2, s3, s4, s5, s6, s7, s8, s9, s10, s11, s12, s13, s14, s15, s16, s17, s18, s19, s20, s21, s22, s23, s24, s25, s26, s27⟩; go_simp; with_reducible rfl⟩) ?_
            refine tQ (i := 24) (N := some 79) mkspec_l464_16 rfl hHeld (Or.inl ⟨by rfl, by rintro w' ⟨s0, s1, s2, s3, s4, s5, s6, s7, s8, s9, s10, s11, s12, s13, s14, s15, s16, s17, s18, s19, s20, s21, s22, s23, s24, s25, s26, s27⟩; go_simp; with_reducible rfl⟩) ?_
            refine one_ (i := 4) (N := some 59) mkspec_l464_17 rfl rfl (one_of HT_.out (by kernel_rfl)) (by decide) (fun K hK => ?_)
            refine goes_ Try.func56 (by kernel_rfl) rfl #[.slice A9000_2 ((rd_T39 l0_0 a0_1).f2).length c9000_2] (by rfl) rfl rfl gQ ?_
            with_reducible refine (spec_l24Words.calls k _ _ ((rd_T39 l0_0 a0_1).f2) t212 _ ?side1 ?side2 A19.out).mono ?_
            (case side1 => exact cQ HR211_2.out)
            (case side2 => exact HC211_2.out)
            rintro e w' ⟨rfl, ⟨nd, rfl⟩⟩
            refine ⟨_, rfl, ?_⟩
            refine hK.out _ _ ⟨(cB HB.out hw211_0), (cB HB.out hw211_1), (cB HB.out hw211_2), (cB HB.out hw211_3), (cB HB.out hw211_4), (cB HB.out hw211_5), (cB HB.out hw211_6), (cB HB.out hw213_0), (cB HB.out hw213_1), (cB HB.out hw213_2), (cB HB.out hw213_3), (cB HB.out hw213_4), (cB HB.out hw213_5), (cB HB.out hw213_6), (cB HB.out hw215_0), (cB HB.out hw215_1), (cB HB.out hw215_2), (cB HB.out hw215_3), (cB HB.out hw215_4), (cB HB.out hw215_5), (cB HB.out hw215_6), (cB HB.out hw217_0), (cB HB.out hw217_1), (cB HB.out hw217_2), (cB HB.out hw217_3), (cB HB.out hw217_4), (cB HB.out hw217_5), (cB HB.out hw217_6)⟩ (fun hHeld => ?_)
            clear hK K
            refine norm_ (a' := ?_) ?_ ?_
            rotate_left
            ·show Act.put _ (some 59) _ = _
             simp only [Act.put, sI, sZ, sS, i64_w, i32_w]
             rfl
            refine pQ (i := 5) (N := some 60) mkspec_l464_18 ?_
            refine pQ (i := 6) (N := some 61) mkspec_l464_19 ?_
            refine one_ (i := 11) (N := some 66) mkspec_l464_20 rfl rfl (one_of HT_.out (by kernel_rfl)) (by decide) (fun K hK => ?_)
            refine goes_ Try.func56 (by kernel_rfl) rfl #[.slice A9000_3 ((rd_T39 l0_0 a0_1).f3).length c9000_3] (by rfl) rfl rfl gQ ?_
            with_reducible refine (spec_l24Words.calls k _ _ ((rd_T39 l0_0 a0_1).f3) t214 _ ?side1 ?side2 A22.out).mono ?_
            (case side1 => exact cQ HR213_3.out)
            (case side2 => exact HC213_3.out)
            rintro e w' ⟨rfl, ⟨nd, rfl⟩⟩
            refine ⟨_, rfl, ?_⟩
            refine hK.out _ _ ⟨(cB HB.out hw211_0), (cB HB.out hw211_1), (cB HB.out hw211_2), (cB HB.out hw211_3), (cB HB.out hw211_4), (cB HB.out hw211_5), (cB HB.out hw211_6), (cB HB.out hw213_0), (cB HB.out hw213_1), (cB HB.out hw213_2), (cB HB.out hw213_3), (cB HB.out hw213_4), (cB HB.out hw213_5), (cB HB.out hw213_6), (cB HB.out hw215_0), (cB HB.out hw215_1), (cB HB.out hw215_2), (cB HB.out hw215_3), (cB HB.out hw215_4), (cB HB.out hw215_5), (cB HB.out hw215_6), (cB HB.out hw217_0), (cB HB.out hw217_1), (cB HB.out hw217_2), (cB HB.out hw217_3), (cB HB.out hw217_4), (cB HB.out hw217_5), (cB HB.out hw217_6)⟩ (fun hHeld => ?_)
            clear hK K
            refine norm_ (a' := ?_) ?_ ?_
            rotate_left
            ·show Act.put _ (some 66) _ = _
             simp only [Act.put, sI, sZ, sS, i64_w, i32_w]
             rfl
            refine pQ (i := 12) (N := some 67) mkspec_l464_21 ?_
            refine pQ (i := 13) (N := some 68) mkspec_l464_22 ?_
            refine one_ (i := 18) (N := some 73) mkspec_l464_23 rfl rfl (one_of HT_.out (by kernel_rfl)) (by decide) (fun K hK => ?_)
            refine goes_ Try.func56 (by kernel_rfl) rfl #[.slice A9000_4 ((rd_T39 l0_0 a0_1).f4).length c9000_4] (by rfl) rfl rfl gQ ?_
            with_reducible refine (spec_l24Words.calls k _ _ ((rd_T39 l0_0 a0_1).f4) t216 _ ?side1 ?side2 A25.out).mono ?_
            (case side1 => exact cQ HR215_4.out)
            (case side2 => exact HC215_4.out)
            rintro e w' ⟨rfl, ⟨nd, rfl⟩⟩
            refine ⟨_, rfl, ?_⟩
            refine hK.out _ _ ⟨(cB HB.out hw211_0), (cB HB.out hw211_1), (cB HB.out hw211_2), (cB HB.out hw211_3), (cB HB.out hw211_4), (cB HB.out hw211_5), (cB HB.out hw211_6), (cB HB.out hw213_0), (cB HB.out hw213_1), (cB HB.out hw213_2), (cB HB.out hw213_3), (cB HB.out hw213_4), (cB HB.out hw213_5), (cB HB.out hw213_6), (cB HB.out hw215_0), (cB HB.out hw215_1), (cB HB.out hw215_2), (cB HB.out hw215_3), (cB HB.out hw215_4), (cB HB.out hw215_5), (cB HB.out hw215_6), (cB HB.out hw217_0), (cB HB.out hw217_1), (cB HB.out hw217_2), (cB HB.out hw217_3), (cB HB.out hw217_4), (cB HB.out hw217_5), (cB HB.out hw217_6)⟩ (fun hHeld => ?_)
            clear hK K
            refine norm_ (a' := ?_) ?_ ?_
            rotate_left
            ·show Act.put _ (some 73) _ = _
             simp only [Act.put, sI, sZ, sS, i64_w, i32_w]
             rfl
            refine pQ (i := 19) (N := some 74) mkspec_l464_24 ?_
            refine pQ (i := 20) (N := some 75) mkspec_l464_25 ?_
            refine one_ (i := 25) (N := some 80) mkspec_l464_26 rfl rfl (one_of HT_.out (by kernel_rfl)) (by decide) (fun K hK => ?_)
            refine goes_ Try.func56 (by kernel_rfl) rfl #[.slice A9000_5 ((rd_T39 l0_0 a0_1).f5).length c9000_5] (by rfl) rfl rfl gQ ?_
            with_reducible refine (spec_l24Words.calls k _ _ ((rd_T39 l0_0 a0_1).f5) t218 _ ?side1 ?side2 A28.out).mono ?_
            (case side1 => exact cQ HR217_5.out)
            (case side2 => exact HC217_5.out)
            rintro e w' ⟨rfl, ⟨nd, rfl⟩⟩
            refine ⟨_, rfl, ?_⟩
            refine hK.out _ _ ⟨(cB HB.out hw211_0), (cB HB.out hw211_1), (cB HB.out hw211_2), (cB HB.out hw211_3), (cB HB.out hw211_4), (cB HB.out hw211_5), (cB HB.out hw211_6), (cB HB.out hw213_0), (cB HB.out hw213_1), (cB HB.out hw213_2), (cB HB.out hw213_3), (cB HB.out hw213_4), (cB HB.out hw213_5), (cB HB.out hw213_6), (cB HB.out hw215_0), (cB HB.out hw215_1), (cB HB.out hw215_2), (cB HB.out hw215_3), (cB HB.out hw215_4), (cB HB.out hw215_5), (cB HB.out hw215_6), (cB HB.out hw217_0), (cB HB.out hw217_1), (cB HB.out hw217_2), (cB HB.out hw217_3), (cB HB.out hw217_4), (cB HB.out hw217_5), (cB HB.out hw217_6)⟩ (fun hHeld => ?_)
            clear hK K
            refine norm_ (a' := ?_) ?_ ?_
            rotate_left
            ·show Act.put _ (some 80) _ = _
             simp only [Act.put, sI, sZ, sS, i64_w, i32_w]
             rfl
            refine pQ (i := 26) (N := some 81) mkspec_l464_27 ?_
            refine pQ (i := 27) (N := some 2) mkspec_l464_28 ?_
            refine done_ (done_of HT_.out (by kernel_rfl)) ?_
            try go_wp2
            go_ret
            exact ⟨eQ, bQ⟩
           ·rw [if_neg c29] at H
            exact absurd H (by simp)
          ·rw [if_neg c27] at H
           exact absurd H (by simp)
         ·rw [if_neg c26] at H
          exact absurd H (by simp)
        ·rw [if_neg c24] at H
         exact absurd H (by simp)
       ·rw [if_neg c23] at H
        exact absurd H (by simp)
      ·rw [if_neg c21] at H
       exact absurd H (by simp)
     ·rw [if_neg c20] at H
      exact absurd H (by simp)
   ·rw [if_neg c10] at H
    have c10b0 : (((rd_T39 l0_0 a0_1).f0) == 3) = false := beq_eq_false_iff_ne.mpr c10
    have c10b1 : (((rd_T39 l0_0 a0_1).f0) != 3) = true := bne_iff_ne.mpr c10
    by_cases c32 : ((rd_T39 l0_0 a0_1).f0) = 5
    ·rw [if_pos c32] at H
     have c32b0 : (((rd_T39 l0_0 a0_1).f0) == 5) = true := beq_iff_eq.mpr c32
     have c32b1 : (((rd_T39 l0_0 a0_1).f0) != 5) = false := bne_eq_false_iff_eq.mpr c32
     clear c32
     replace H := Option.bind_eq_some_iff.mp H
     obtain ⟨t220, A330, H⟩ := H
     replace H : (if 4 + t220.size ≤ 9223372036854775807 then (if ((⟨#[107, 101, 114, 110]⟩ : ByteArray) ++ t220).size + 1 ≤ 9223372036854775807 then ((spec_l01Dec.f k ((rd_T39 l0_0 a0_1).f6)).bind fun t222 => (if (((⟨#[107, 101, 114, 110]⟩ : ByteArray) ++ t220) ++ (⟨#[32]⟩ : ByteArray)).size + t222.size ≤ 9223372036854775807 then (some ((((⟨#[107, 101, 114, 110]⟩ : ByteArray) ++ t220) ++ (⟨#[32]⟩ : ByteArray)) ++ t222)) else (none))) else (none)) else (none)) = some r := H
     have A33 := aM A330
     clear A330
     by_cases c34 : 4 + t220.size ≤ 9223372036854775807
     ·rw [if_pos c34] at H
      have c34b0 := eq_true c34
      have c34b1 : decide (4 + t220.size ≤ 9223372036854775807) = true := decide_eq_true c34
      try have c34b2 : (9223372036854775807 < 4 + t220.size) = False := eq_false (Nat.not_lt.2 c34)
      by_cases c35 : ((⟨#[107, 101, 114, 110]⟩ : ByteArray) ++ t220).size + 1 ≤ 9223372036854775807
      ·rw [if_pos c35] at H
       have c35b0 := eq_true c35
       have c35b1 : decide (((⟨#[107, 101, 114, 110]⟩ : ByteArray) ++ t220).size + 1 ≤ 9223372036854775807) = true := decide_eq_true c35
       try have c35b2 : (9223372036854775807 < ((⟨#[107, 101, 114, 110]⟩ : ByteArray) ++ t220).size + 1) = False := eq_false (Nat.not_lt.2 c35)
       try have c35b3 : (9223372036854775807 < 4 + t220.size + 1) = False := eq_false (Nat.not_lt.2 (by have h_ := c35; simp only [ByteArray.size_append] at h_; exact h_))
       try (have c35b6 := c35b0; simp only [ByteArray.size_append, ByteArray.size_extract, Nat.min_self, Int.natCast_add] at c35b6)
       try (have c35b7 := c35b1; simp only [ByteArray.size_append, ByteArray.size_extract, Nat.min_self, Int.natCast_add] at c35b7)
       replace H := Option.bind_eq_some_iff.mp H
       obtain ⟨t222, A360, H⟩ := H
       replace H : (if (((⟨#[107, 101, 114, 110]⟩ : ByteArray) ++ t220) ++ (⟨#[32]⟩ : ByteArray)).size + t222.size ≤ 9223372036854775807 then (some ((((⟨#[107, 101, 114, 110]⟩ : ByteArray) ++ t220) ++ (⟨#[32]⟩ : ByteArray)) ++ t222)) else (none)) = some r := H
       have A36 := aM A360
       clear A360
       by_cases c37 : (((⟨#[107, 101, 114, 110]⟩ : ByteArray) ++ t220) ++ (⟨#[32]⟩ : ByteArray)).size + t222.size ≤ 9223372036854775807
       ·rw [if_pos c37] at H
        have c37b0 := eq_true c37
        have c37b1 : decide ((((⟨#[107, 101, 114, 110]⟩ : ByteArray) ++ t220) ++ (⟨#[32]⟩ : ByteArray)).size + t222.size ≤ 9223372036854775807) = true := decide_eq_true c37
        try have c37b2 : (9223372036854775807 < (((⟨#[107, 101, 114, 110]⟩ : ByteArray) ++ t220) ++ (⟨#[32]⟩ : ByteArray)).size + t222.size) = False := eq_false (Nat.not_lt.2 c37)
        try have c37b3 : (9223372036854775807 < 4 + t220.size + 1 + t222.size) = False := eq_false (Nat.not_lt.2 (by have h_ := c37; simp only [ByteArray.size_append] at h_; exact h_))
        try (have c37b6 := c37b0; simp only [ByteArray.size_append, ByteArray.size_extract, Nat.min_self, Int.natCast_add] at c37b6)
        try (have c37b7 := c37b1; simp only [ByteArray.size_append, ByteArray.size_extract, Nat.min_self, Int.natCast_add] at c37b7)
        obtain rfl := Option.some.inj H
        have hx200_0 := HX9000_0.out
        have hx200_1 := HX9000_1.out
        have hx200_2 := HX9000_2.out
        have hx200_3 := HX9000_3.out
        have hx200_4 := HX9000_4.out
        have hx200_5 := HX9000_5.out
        have hx200_6 := HX9000_6.out
        have HR200_2 := HR9000_2
        have HC200_2 := HC9000_2
        have HR200_3 := HR9000_3
        have HC200_3 := HC9000_3
        have HR200_4 := HR9000_4
        have HC200_4 := HC9000_4
        have HR200_5 := HR9000_5
        have HC200_5 := HC9000_5
        go_enter Try.func34, Try.ntmps34
        try go_wp2
        have n0_ := aM (below_drew1 HB.out)
        clear HB
        have HB := n0_
        clear n0_
        have hx219_0 := HX9000_0.out
        have hx219_1 := HX9000_1.out
        have hx219_2 := HX9000_2.out
        have hx219_3 := HX9000_3.out
        have hx219_4 := HX9000_4.out
        have hx219_5 := HX9000_5.out
        have hx219_6 := HX9000_6.out
        have hw219_6 := hx219_6
        have hw219_5 := hx219_5
        have hw219_4 := hx219_4
        have hw219_3 := hx219_3
        have hw219_2 := hx219_2
        have hw219_1 := hx219_1
        have hw219_0 := hx219_0
        replace hx219_0 := cB HB.out hx219_0
        replace hx219_1 := cB HB.out hx219_1
        replace hx219_2 := cB HB.out hx219_2
        replace hx219_3 := cB HB.out hx219_3
        replace hx219_4 := cB HB.out hx219_4
        replace hx219_5 := cB HB.out hx219_5
        replace hx219_6 := cB HB.out hx219_6
        have HR219_2 := HR9000_2
        have HC219_2 := HC9000_2
        have HR219_3 := HR9000_3
        have HC219_3 := HC9000_3
        have HR219_4 := HR9000_4
        have HC219_4 := HC9000_4
        have HR219_5 := HR9000_5
        have HC219_5 := HC9000_5
        have hx221_0 := HX9000_0.out
        have hx221_1 := HX9000_1.out
        have hx221_2 := HX9000_2.out
        have hx221_3 := HX9000_3.out
        have hx221_4 := HX9000_4.out
        have hx221_5 := HX9000_5.out
        have hx221_6 := HX9000_6.out
        have hw221_6 := hx221_6
        have hw221_5 := hx221_5
        have hw221_4 := hx221_4
        have hw221_3 := hx221_3
        have hw221_2 := hx221_2
        have hw221_1 := hx221_1
        have hw221_0 := hx221_0
        replace hx221_0 := cB HB.out hx221_0
        replace hx221_1 := cB HB.out hx221_1
        replace hx221_2 := cB HB.out hx221_2
        replace hx221_3 := cB HB.out hx221_3
        replace hx221_4 := cB HB.out hx221_4
        replace hx221_5 := cB HB.out hx221_5
        replace hx221_6 := cB HB.out hx221_6
        have HR221_2 := HR9000_2
        have HC221_2 := HC9000_2
        have HR221_3 := HR9000_3
        have HC221_3 := HC9000_3
        have HR221_4 := HR9000_4
        have HC221_4 := HC9000_4
        have HR221_5 := HR9000_5
        have HC221_5 := HC9000_5
        refine start_ (n := 14) (S := fun w' => w'.cell? (ad0_.add ((a0_1).toNat * 7)) = some (.int .i64 ((rd_T39 l0_0 a0_1).f0)) ∧ w'.cell? ⟨(ad0_.add ((a0_1).toNat * 7)).block, (ad0_.add ((a0_1).toNat * 7)).off + 1, none⟩ = some (.string ((rd_T39 l0_0 a0_1).f1)) ∧ w'.cell? ⟨(ad0_.add ((a0_1).toNat * 7)).block, (ad0_.add ((a0_1).toNat * 7)).off + 2, none⟩ = some (.slice A9000_2 ((rd_T39 l0_0 a0_1).f2).length c9000_2) ∧ w'.cell? ⟨(ad0_.add ((a0_1).toNat * 7)).block, (ad0_.add ((a0_1).toNat * 7)).off + 3, none⟩ = some (.slice A9000_3 ((rd_T39 l0_0 a0_1).f3).length c9000_3) ∧ w'.cell? ⟨(ad0_.add ((a0_1).toNat * 7)).block, (ad0_.add ((a0_1).toNat * 7)).off + 4, none⟩ = some (.slice A9000_4 ((rd_T39 l0_0 a0_1).f4).length c9000_4) ∧ w'.cell? ⟨(ad0_.add ((a0_1).toNat * 7)).block, (ad0_.add ((a0_1).toNat * 7)).off + 5, none⟩ = some (.slice A9000_5 ((rd_T39 l0_0 a0_1).f5).length c9000_5) ∧ w'.cell? ⟨(ad0_.add ((a0_1).toNat * 7)).block, (ad0_.add ((a0_1).toNat * 7)).off + 6, none⟩ = some (.int .i64 ((rd_T39 l0_0 a0_1).f6)) ∧ w'.cell? (ad0_.add ((a0_1).toNat * 7)) = some (.int .i64 ((rd_T39 l0_0 a0_1).f0)) ∧ w'.cell? ⟨(ad0_.add ((a0_1).toNat * 7)).block, (ad0_.add ((a0_1).toNat * 7)).off + 1, none⟩ = some (.string ((rd_T39 l0_0 a0_1).f1)) ∧ w'.cell? ⟨(ad0_.add ((a0_1).toNat * 7)).block, (ad0_.add ((a0_1).toNat * 7)).off + 2, none⟩ = some (.slice A9000_2 ((rd_T39 l0_0 a0_1).f2).length c9000_2) ∧ w'.cell? ⟨(ad0_.add ((a0_1).toNat * 7)).block, (ad0_.add ((a0_1).toNat * 7)).off + 3, none⟩ = some (.slice A9000_3 ((rd_T39 l0_0 a0_1).f3).length c9000_3) ∧ w'.cell? ⟨(ad0_.add ((a0_1).toNat * 7)).block, (ad0_.add ((a0_1).toNat * 7)).off + 4, none⟩ = some (.slice A9000_4 ((rd_T39 l0_0 a0_1).f4).length c9000_4) ∧ w'.cell? ⟨(ad0_.add ((a0_1).toNat * 7)).block, (ad0_.add ((a0_1).toNat * 7)).off + 5, none⟩ = some (.slice A9000_5 ((rd_T39 l0_0 a0_1).f5).length c9000_5) ∧ w'.cell? ⟨(ad0_.add ((a0_1).toNat * 7)).block, (ad0_.add ((a0_1).toNat * 7)).off + 6, none⟩ = some (.int .i64 ((rd_T39 l0_0 a0_1).f6))) (ds := []) mkspec_l464_72 (by kernel_rfl) rfl rfl ⟨(cB HB.out hw219_0), (cB HB.out hw219_1), (cB HB.out hw219_2), (cB HB.out hw219_3), (cB HB.out hw219_4), (cB HB.out hw219_5), (cB HB.out hw219_6), (cB HB.out hw221_0), (cB HB.out hw221_1), (cB HB.out hw221_2), (cB HB.out hw221_3), (cB HB.out hw221_4), (cB HB.out hw221_5), (cB HB.out hw221_6)⟩ (fun hHeld => ?_); refine with_tabW spec_l24Text_at.tab11 spec_l24Text_at.bits11 (fun HT_ HW_ => ?_)
        generalize w.drew = w38 at HB HR219_2 HR219_3 HR219_4 HR219_5 HR221_2 HR221_3 HR221_4 HR221_5 hx219_0 hx219_1 hx219_2 hx219_3 hx219_4 hx219_5 hx219_6 hx221_0 hx221_1 hx221_2 hx221_3 hx221_4 hx221_5 hx221_6 hHeld ⊢
        refine pQ (i := 0) (N := some 84) mkspec_l464_73 ?_
        refine pQ (i := 1) (N := some 85) mkspec_l464_74 ?_
        refine pQ (i := 2) (N := some 86) mkspec_l464_75 ?_
        refine pQ (i := 7) (N := some 91) mkspec_l464_76 ?_
        refine pQ (i := 8) (N := some 92) mkspec_l464_77 ?_
        refine pQ (i := 9) (N := some 93) mkspec_l464_78 ?_
        refine tQ (i := 3) (N := some 87) mkspec_l464_80 rfl hHeld (Or.inl ⟨by rfl, by rintro w' ⟨s0, s1, s2, s3, s4, s5, s6, s7, s8, s9, s10, s11, s12, s13⟩; go_simp; with_reducible rfl⟩) ?_
        refine tQ (i := 10) (N := some 94) mkspec_l464_82 rfl hHeld (Or.inl ⟨by rfl, by rintro w' ⟨s0, s1, s2, s3, s4, s5, s6, s7, s8, s9, s10, s11, s12, s13⟩; go_simp; with_reducible rfl⟩) ?_
        refine one_ (i := 4) (N := some 88) mkspec_l464_84 rfl rfl (one_of HT_.out (by kernel_rfl)) (by decide) (fun K hK => ?_)
        refine goes_ Try.func56 (by kernel_rfl) rfl #[.slice A9000_3 ((rd_T39 l0_0 a0_1).f3).length c9000_3] (by rfl) rfl rfl gQ ?_
        with_reducible refine (spec_l24Words.calls k _ _ ((rd_T39 l0_0 a0_1).f3) t220 _ ?side1 ?side2 A33.out).mono ?_
        (case side1 => exact cQ HR219_3.out)
        (case side2 => exact HC219_3.out)
        rintro e w' ⟨rfl, ⟨nd, rfl⟩⟩
        refine ⟨_, rfl, ?_⟩
        refine hK.out _ _ ⟨(cB HB.out hw219_0), (cB HB.out hw219_1), (cB HB.out hw219_2), (cB HB.out hw219_3), (cB HB.out hw219_4), (cB HB.out hw219_5), (cB HB.out hw219_6), (cB HB.out hw221_0), (cB HB.out hw221_1), (cB HB.out hw221_2), (cB HB.out hw221_3), (cB HB.out hw221_4), (cB HB.out hw221_5), (cB HB.out hw221_6)⟩ (fun hHeld => ?_)
        clear hK K
        refine norm_ (a' := ?_) ?_ ?_
        rotate_left
        ·show Act.put _ (some 88) _ = _
         simp only [Act.put, sI, sZ, sS, i64_w, i32_w]
         rfl
        refine pQ (i := 5) (N := some 89) mkspec_l464_86 ?_
        refine pQ (i := 6) (N := some 90) mkspec_l464_88 ?_
        refine one_ (i := 11) (N := some 95) mkspec_l464_90 rfl rfl (one_of HT_.out (by kernel_rfl)) (by decide) (fun K hK => ?_)
        refine goes_ Try.func57 (by kernel_rfl) rfl #[.int .i64 ((rd_T39 l0_0 a0_1).f6)] (by rfl) rfl rfl gQ ?_
        with_reducible refine (spec_l01Dec.calls k ((rd_T39 l0_0 a0_1).f6) t222 _ A36.out).mono ?_
        rintro e w39 ⟨rfl, hb⟩
        refine ⟨_, rfl, ?_⟩
        have n0_ := aM (below_step bQ hb)
        clear HB
        have HB := n0_
        clear n0_
        (try clear hb)
        (try clear hb2)
        (try clear hk)
        (try clear hi)
        refine hK.out _ _ ⟨(cB HB.out hw219_0), (cB HB.out hw219_1), (cB HB.out hw219_2), (cB HB.out hw219_3), (cB HB.out hw219_4), (cB HB.out hw219_5), (cB HB.out hw219_6), (cB HB.out hw221_0), (cB HB.out hw221_1), (cB HB.out hw221_2), (cB HB.out hw221_3), (cB HB.out hw221_4), (cB HB.out hw221_5), (cB HB.out hw221_6)⟩ (fun hHeld => ?_)
        clear hK K
        refine norm_ (a' := ?_) ?_ ?_
        rotate_left
        ·show Act.put _ (some 95) _ = _
         simp only [Act.put, sI, sZ, sS, i64_w, i32_w]
         rfl
        refine pQ (i := 12) (N := some 96) mkspec_l464_92 ?_
        refine pQ (i := 13) (N := some 2) mkspec_l464_95 ?_
        refine done_ (done_of HT_.out (by kernel_rfl)) ?_
        try go_wp2
        go_ret
        exact ⟨eQ, bQ⟩
       ·rw [if_neg c37] at H
        exact absurd H (by simp)
      ·rw [if_neg c35] at H
       exact absurd H (by simp)
     ·rw [if_neg c34] at H
      exact absurd H (by simp)
    ·rw [if_neg c32] at H
     have c32b0 : (((rd_T39 l0_0 a0_1).f0) == 5) = false := beq_eq_false_iff_ne.mpr c32
     have c32b1 : (((rd_T39 l0_0 a0_1).f0) != 5) = true := bne_iff_ne.mpr c32
     by_cases c40 : ((rd_T39 l0_0 a0_1).f0) = 6
     ·rw [if_pos c40] at H
      have c40b0 : (((rd_T39 l0_0 a0_1).f0) == 6) = true := beq_iff_eq.mpr c40
      have c40b1 : (((rd_T39 l0_0 a0_1).f0) != 6) = false := bne_eq_false_iff_eq.mpr c40
      clear c40
      by_cases c41 : 0 < (((rd_T39 l0_0 a0_1).f3).length : Int)
      ·rw [if_pos c41] at H
       have c41b0 : decide (0 < (((rd_T39 l0_0 a0_1).f3).length : Int)) = true := decide_eq_true c41
       have c41b1 : decide (0 < ((rd_T39 l0_0 a0_1).f3).length) = true := decide_eq_true (by omega)
       clear c41
       by_cases c42 : 5 + (rdOf ByteArray.empty ((rd_T39 l0_0 a0_1).f3) 0).size ≤ 9223372036854775807
       ·rw [if_pos c42] at H
        have c42b0 := eq_true c42
        have c42b1 : decide (5 + (rdOf ByteArray.empty ((rd_T39 l0_0 a0_1).f3) 0).size ≤ 9223372036854775807) = true := decide_eq_true c42
        try have c42b2 : (9223372036854775807 < 5 + (rdOf ByteArray.empty ((rd_T39 l0_0 a0_1).f3) 0).size) = False := eq_false (Nat.not_lt.2 c42)
        by_cases c43 : ((⟨#[109, 97, 114, 107, 32]⟩ : ByteArray) ++ (rdOf ByteArray.empty ((rd_T39 l0_0 a0_1).f3) 0)).size + 4 ≤ 9223372036854775807
        ·rw [if_pos c43] at H
         have c43b0 := eq_true c43
         have c43b1 : decide (((⟨#[109, 97, 114, 107, 32]⟩ : ByteArray) ++ (rdOf ByteArray.empty ((rd_T39 l0_0 a0_1).f3) 0)).size + 4 ≤ 9223372036854775807) = true := decide_eq_true c43
         try have c43b2 : (9223372036854775807 < ((⟨#[109, 97, 114, 107, 32]⟩ : ByteArray) ++ (rdOf ByteArray.empty ((rd_T39 l0_0 a0_1).f3) 0)).size + 4) = False := eq_false (Nat.not_lt.2 c43)
         try have c43b3 : (9223372036854775807 < 5 + (rdOf ByteArray.empty ((rd_T39 l0_0 a0_1).f3) 0).size + 4) = False := eq_false (Nat.not_lt.2 (by have h_ := c43; simp only [ByteArray.size_append] at h_; exact h_))
         try (have c43b6 := c43b0; simp only [ByteArray.size_append, ByteArray.size_extract, Nat.min_self, Int.natCast_add] at c43b6)
         try (have c43b7 := c43b1; simp only [ByteArray.size_append, ByteArray.size_extract, Nat.min_self, Int.natCast_add] at c43b7)
         by_cases c44 : 1 < (((rd_T39 l0_0 a0_1).f3).length : Int)
         ·rw [if_pos c44] at H
          have c44b0 : decide (1 < (((rd_T39 l0_0 a0_1).f3).length : Int)) = true := decide_eq_true c44
          have c44b1 : decide (1 < ((rd_T39 l0_0 a0_1).f3).length) = true := decide_eq_true (by omega)
          clear c44
          by_cases c45 : (((⟨#[109, 97, 114, 107, 32]⟩ : ByteArray) ++ (rdOf ByteArray.empty ((rd_T39 l0_0 a0_1).f3) 0)) ++ (⟨#[32, 111, 110, 32]⟩ : ByteArray)).size + (rdOf ByteArray.empty ((rd_T39 l0_0 a0_1).f3) 1).size ≤ 9223372036854775807
          ·rw [if_pos c45] at H
           have c45b0 := eq_true c45
           have c45b1 : decide ((((⟨#[109, 97, 114, 107, 32]⟩ : ByteArray) ++ (rdOf ByteArray.empty ((rd_T39 l0_0 a0_1).f3) 0)) ++ (⟨#[32, 111, 110, 32]⟩ : ByteArray)).size + (rdOf ByteArray.empty ((rd_T39 l0_0 a0_1).f3) 1).size ≤ 9223372036854775807) = true := decide_eq_true c45
           try have c45b2 : (9223372036854775807 < (((⟨#[109, 97, 114, 107, 32]⟩ : ByteArray) ++ (rdOf ByteArray.empty ((rd_T39 l0_0 a0_1).f3) 0)) ++ (⟨#[32, 111, 110, 32]⟩ : ByteArray)).size + (rdOf ByteArray.empty ((rd_T39 l0_0 a0_1).f3) 1).size) = False := eq_false (Nat.not_lt.2 c45)
           try have c45b3 : (9223372036854775807 < 5 + (rdOf ByteArray.empty ((rd_T39 l0_0 a0_1).f3) 0).size + 4 + (rdOf ByteArray.empty ((rd_T39 l0_0 a0_1).f3) 1).size) = False := eq_false (Nat.not_lt.2 (by have h_ := c45; simp only [ByteArray.size_append] at h_; exact h_))
           try (have c45b6 := c45b0; simp only [ByteArray.size_append, ByteArray.size_extract, Nat.min_self, Int.natCast_add] at c45b6)
           try (have c45b7 := c45b1; simp only [ByteArray.size_append, ByteArray.size_extract, Nat.min_self, Int.natCast_add] at c45b7)
           by_cases c46 : ((((⟨#[109, 97, 114, 107, 32]⟩ : ByteArray) ++ (rdOf ByteArray.empty ((rd_T39 l0_0 a0_1).f3) 0)) ++ (⟨#[32, 111, 110, 32]⟩ : ByteArray)) ++ (rdOf ByteArray.empty ((rd_T39 l0_0 a0_1).f3) 1)).size + 4 ≤ 9223372036854775807
           ·rw [if_pos c46] at H
            have c46b0 := eq_true c46
            have c46b1 : decide (((((⟨#[109, 97, 114, 107, 32]⟩ : ByteArray) ++ (rdOf ByteArray.empty ((rd_T39 l0_0 a0_1).f3) 0)) ++ (⟨#[32, 111, 110, 32]⟩ : ByteArray)) ++ (rdOf ByteArray.empty ((rd_T39 l0_0 a0_1).f3) 1)).size + 4 ≤ 9223372036854775807) = true := decide_eq_true c46
            try have c46b2 : (9223372036854775807 < ((((⟨#[109, 97, 114, 107, 32]⟩ : ByteArray) ++ (rdOf ByteArray.empty ((rd_T39 l0_0 a0_1).f3) 0)) ++ (⟨#[32, 111, 110, 32]⟩ : ByteArray)) ++ (rdOf ByteArray.empty ((rd_T39 l0_0 a0_1).f3) 1)).size + 4) = False := eq_false (Nat.not_lt.2 c46)
            try have c46b3 : (9223372036854775807 < 5 + (rdOf ByteArray.empty ((rd_T39 l0_0 a0_1).f3) 0).size + 4 + (rdOf ByteArray.empty ((rd_T39 l0_0 a0_1).f3) 1).size + 4) = False := eq_false (Nat.not_lt.2 (by have h_ := c46; simp only [ByteArray.size_append] at h_; exact h_))
            try (have c46b6 := c46b0; simp only [ByteArray.size_append, ByteArray.size_extract, Nat.min_self, Int.natCast_add] at c46b6)
            try (have c46b7 := c46b1; simp only [ByteArray.size_append, ByteArray.size_extract, Nat.min_self, Int.natCast_add] at c46b7)
            by_cases c47 : (((((⟨#[109, 97, 114, 107, 32]⟩ : ByteArray) ++ (rdOf ByteArray.empty ((rd_T39 l0_0 a0_1).f3) 0)) ++ (⟨#[32, 111, 110, 32]⟩ : ByteArray)) ++ (rdOf ByteArray.empty ((rd_T39 l0_0 a0_1).f3) 1)) ++ (⟨#[32, 97, 116, 32]⟩ : ByteArray)).size + ((rd_T39 l0_0 a0_1).f1).size ≤ 9223372036854775807
            ·rw [if_pos c47] at H
             have c47b0 := eq_true c47
             have c47b1 : decide ((((((⟨#[109, 97, 114, 107, 32]⟩ : ByteArray) ++ (rdOf ByteArray.empty ((rd_T39 l0_0 a0_1).f3) 0)) ++ (⟨#[32, 111, 110, 32]⟩ : ByteArray)) ++ (rdOf ByteArray.empty ((rd_T39 l0_0 a0_1).f3) 1)) ++ (⟨#[32, 97, 116, 32]⟩ : ByteArray)).size + ((rd_T39 l0_0 a0_1).f1).size ≤ 9223372036854775807) = true := decide_eq_true c47
             try have c47b2 : (9223372036854775807 < (((((⟨#[109, 97, 114, 107, 32]⟩ : ByteArray) ++ (rdOf ByteArray.empty ((rd_T39 l0_0 a0_1).f3) 0)) ++ (⟨#[32, 111, 110, 32]⟩ : ByteArray)) ++ (rdOf ByteArray.empty ((rd_T39 l0_0 a0_1).f3) 1)) ++ (⟨#[32, 97, 116, 32]⟩ : ByteArray)).size + ((rd_T39 l0_0 a0_1).f1).size) = False := eq_false (Nat.not_lt.2 c47)
             try have c47b3 : (9223372036854775807 < 5 + (rdOf ByteArray.empty ((rd_T39 l0_0 a0_1).f3) 0).size + 4 + (rdOf ByteArray.empty ((rd_T39 l0_0 a0_1).f3) 1).size + 4 + ((rd_T39 l0_0 a0_1).f1).size) = False := eq_false (Nat.not_lt.2 (by have h_ := c47; simp only [ByteArray.size_append] at h_; exact h_))
             try (have c47b6 := c47b0; simp only [ByteArray.size_append, ByteArray.size_extract, Nat.min_self, Int.natCast_add] at c47b6)
             try (have c47b7 := c47b1; simp only [ByteArray.size_append, ByteArray.size_extract, Nat.min_self, Int.natCast_add] at c47b7)
             obtain rfl := Option.some.inj H
             have hx200_0 := HX9000_0.out
             have hx200_1 := HX9000_1.out
             have hx200_2 := HX9000_2.out
             have hx200_3 := HX9000_3.out
             have hx200_4 := HX9000_4.out
             have hx200_5 := HX9000_5.out
             have hx200_6 := HX9000_6.out
             have HR200_2 := HR9000_2
             have HC200_2 := HC9000_2
             have HR200_3 := HR9000_3
             have HC200_3 := HC9000_3
             have HR200_4 := HR9000_4
             have HC200_4 := HC9000_4
             have HR200_5 := HR9000_5
             have HC200_5 := HC9000_5
             go_enter Try.func34, Try.ntmps34
             try go_wp2
             have n0_ := aM (below_drew1 HB.out)
             clear HB
             have HB := n0_
             clear n0_
             have hx223_0 := HX9000_0.out
             have hx223_1 := HX9000_1.out
             have hx223_2 := HX9000_2.out
             have hx223_3 := HX9000_3.out
             have hx223_4 := HX9000_4.out
             have hx223_5 := HX9000_5.out
             have hx223_6 := HX9000_6.out
             have hw223_6 := hx223_6
             have hw223_5 := hx223_5
             have hw223_4 := hx223_4
             have hw223_3 := hx223_3
             have hw223_2 := hx223_2
             have hw223_1 := hx223_1
             have hw223_0 := hx223_0
             replace hx223_0 := cB HB.out hx223_0
             replace hx223_1 := cB HB.out hx223_1
             replace hx223_2 := cB HB.out hx223_2
             replace hx223_3 := cB HB.out hx223_3
             replace hx223_4 := cB HB.out hx223_4
             replace hx223_5 := cB HB.out hx223_5
             replace hx223_6 := cB HB.out hx223_6
             have HR223_2 := HR9000_2
             have HC223_2 := HC9000_2
             have HR223_3 := HR9000_3
             have HC223_3 := HC9000_3
             have HR223_4 := HR9000_4
             have HC223_4 := HC9000_4
             have HR223_5 := HR9000_5
             have HC223_5 := HC9000_5
             have p224 : 0 ≤ (0 : Int) := (by omega)
             have q224 : 0 < (((rd_T39 l0_0 a0_1).f3).length : Int) := dA
             obtain ⟨ad224, e224, hx224_0⟩ := Kd.at_string HR223_3.out 0 p224 q224
             have hw224_0 := hx224_0
             (try rw [show ((0 : Int)).toNat = 0 from rfl] at hw224_0)
             (try rw [show 0 * 1 = 0 from rfl] at hw224_0)
             (try rw [Addr.add_zero'] at hw224_0)
             cases e224
             have qi224 : (0 < ((rd_T39 l0_0 a0_1).f3).length) = True := eq_true (by omega)
             (try rw [show ((0 : Int)).toNat = 0 from rfl] at hx224_0)
             (try rw [Addr.add_zero'] at hx224_0)
             replace hx224_0 := cB HB.out hx224_0
             replace p224 := eq_true p224
             replace q224 := eq_true q224
             have hx225_0 := HX9000_0.out
             have hx225_1 := HX9000_1.out
             have hx225_2 := HX9000_2.out
             have hx225_3 := HX9000_3.out
             have hx225_4 := HX9000_4.out
             have hx225_5 := HX9000_5.out
             have hx225_6 := HX9000_6.out
             have hw225_6 := hx225_6
             have hw225_5 := hx225_5
             have hw225_4 := hx225_4
             have hw225_3 := hx225_3
             have hw225_2 := hx225_2
             have hw225_1 := hx225_1
             have hw225_0 := hx225_0
             replace hx225_0 := cB HB.out hx225_0
             replace hx225_1 := cB HB.out hx225_1
             replace hx225_2 := cB HB.out hx225_2
             replace hx225_3 := cB HB.out hx225_3
             replace hx225_4 := cB HB.out hx225_4
             replace hx225_5 := cB HB.out hx225_5
             replace hx225_6 := cB HB.out hx225_6
             have HR225_2 := HR9000_2
             have HC225_2 := HC9000_2
             have HR225_3 := HR9000_3
             have HC225_3 := HC9000_3
             have HR225_4 := HR9000_4
             have HC225_4 := HC9000_4
             have HR225_5 := HR9000_5
             have HC225_5 := HC9000_5
             have p226 : 0 ≤ (1 : Int) := (by omega)
             have q226 : 1 < (((rd_T39 l0_0 a0_1).f3).length : Int) := dA
             obtain ⟨ad226, e226, hx226_0⟩ := Kd.at_string HR225_3.out 1 p226 q226
             have hw226_0 := hx226_0
             (try rw [show ((1 : Int)).toNat = 1 from rfl] at hw226_0)
             (try rw [show 1 * 1 = 1 from rfl] at hw226_0)
             (try simp only [Nat.reduceMul, Nat.reduceEqDiff, Go.Addr.add, ↓reduceIte] at hw226_0)
             obtain rfl : ad224 = ad226 := (by injection e226)
             (try simp only [show (1 : Int).toNat = 1 from rfl, Nat.reduceMul, Nat.reduceEqDiff, Go.Addr.add, ↓reduceIte] at hx226_0)
             have qi226 : (1 < ((rd_T39 l0_0 a0_1).f3).length) = True := eq_true (by omega)
             (try rw [show ((1 : Int)).toNat = 1 from rfl] at hx226_0)
             replace hx226_0 := cB HB.out hx226_0
             replace p226 := eq_true p226
             replace q226 := eq_true q226
             have hx227_0 := HX9000_0.out
             have hx227_1 := HX9000_1.out
             have hx227_2 := HX9000_2.out
             have hx227_3 := HX9000_3.out
             have hx227_4 := HX9000_4.out
             have hx227_5 := HX9000_5.out
             have hx227_6 := HX9000_6.out
             have hw227_6 := hx227_6
             have hw227_5 := hx227_5
             have hw227_4 := hx227_4
             have hw227_3 := hx227_3
             have hw227_2 := hx227_2
             have hw227_1 := hx227_1
             have hw227_0 := hx227_0
             replace hx227_0 := cB HB.out hx227_0
             replace hx227_1 := cB HB.out hx227_1
             replace hx227_2 := cB HB.out hx227_2
             replace hx227_3 := cB HB.out hx227_3
             replace hx227_4 := cB HB.out hx227_4
             replace hx227_5 := cB HB.out hx227_5
             replace hx227_6 := cB HB.out hx227_6
             have HR227_2 := HR9000_2
             have HC227_2 := HC9000_2
             have HR227_3 := HR9000_3
             have HC227_3 := HC9000_3
             have HR227_4 := HR9000_4
             have HC227_4 := HC9000_4
             have HR227_5 := HR9000_5
             have HC227_5 := HC9000_5
             refine start_ (n := 22) (S := fun w' => w'.cell? (ad0_.add ((a0_1).toNat * 7)) = some (.int .i64 ((rd_T39 l0_0 a0_1).f0)) ∧ w'.cell? ⟨(ad0_.add ((a0_1).toNat * 7)).block, (ad0_.add ((a0_1).toNat * 7)).off + 1, none⟩ = some (.string ((rd_T39 l0_0 a0_1).f1)) ∧ w'.cell? ⟨(ad0_.add ((a0_1).toNat * 7)).block, (ad0_.add ((a0_1).toNat * 7)).off + 2, none⟩ = some (.slice A9000_2 ((rd_T39 l0_0 a0_1).f2).length c9000_2) ∧ w'.cell? ⟨(ad0_.add ((a0_1).toNat * 7)).block, (ad0_.add ((a0_1).toNat * 7)).off + 3, none⟩ = some (.slice (some ad224) ((rd_T39 l0_0 a0_1).f3).length c9000_3) ∧ w'.cell? ⟨(ad0_.add ((a0_1).toNat * 7)).block, (ad0_.add ((a0_1).toNat * 7)).off + 4, none⟩ = some (.slice A9000_4 ((rd_T39 l0_0 a0_1).f4).length c9000_4) ∧ w'.cell? ⟨(ad0_.add ((a0_1).toNat * 7)).block, (ad0_.add ((a0_1).toNat * 7)).off + 5, none⟩ = some (.slice A9000_5 ((rd_T39 l0_0 a0_1).f5).length c9000_5) ∧ w'.cell? ⟨(ad0_.add ((a0_1).toNat * 7)).block, (ad0_.add ((a0_1).toNat * 7)).off + 6, none⟩ = some (.int .i64 ((rd_T39 l0_0 a0_1).f6)) ∧ w'.cell? ad224 = some (.string (rdOf ByteArray.empty ((rd_T39 l0_0 a0_1).f3) 0)) ∧ w'.cell? (ad0_.add ((a0_1).toNat * 7)) = some (.int .i64 ((rd_T39 l0_0 a0_1).f0)) ∧ w'.cell? ⟨(ad0_.add ((a0_1).toNat * 7)).block, (ad0_.add ((a0_1).toNat * 7)).off + 1, none⟩ = some (.string ((rd_T39 l0_0 a0_1).f1)) ∧ w'.cell? ⟨(ad0_.add ((a0_1).toNat * 7)).block, (ad0_.add ((a0_1).toNat * 7)).off + 2, none⟩ = some (.slice A9000_2 ((rd_T39 l0_0 a0_1).f2).length c9000_2) ∧ w'.cell? ⟨(ad0_.add ((a0_1).toNat * 7)).block, (ad0_.add ((a0_1).toNat * 7)).off + 3, none⟩ = some (.slice (some ad224) ((rd_T39 l0_0 a0_1).f3).length c9000_3) ∧ w'.cell? ⟨(ad0_.add ((a0_1).toNat * 7)).block, (ad0_.add ((a0_1).toNat * 7)).off + 4, none⟩ = some (.slice A9000_4 ((rd_T39 l0_0 a0_1).f4).length c9000_4) ∧ w'.cell? ⟨(ad0_.add ((a0_1).toNat * 7)).block, (ad0_.add ((a0_1).toNat * 7)).off + 5, none⟩ = some (.slice A9000_5 ((rd_T39 l0_0 a0_1).f5).length c9000_5) ∧ w'.cell? ⟨(ad0_.add ((a0_1).toNat * 7)).block, (ad0_.add ((a0_1).toNat * 7)).off + 6, none⟩ = some (.int .i64 ((rd_T39 l0_0 a0_1).f6)) ∧ w'.cell? ⟨ad224.block, ad224.off + 1, none⟩ = some (.string (rdOf ByteArray.empty ((rd_T39 l0_0 a0_1).f3) 1)) ∧ w'.cell? (ad0_.add ((a0_1).toNat * 7)) = some (.int .i64 ((rd_T39 l0_0 a0_1).f0)) ∧ w'.cell? ⟨(ad0_.add ((a0_1).toNat * 7)).block, (ad0_.add ((a0_1).toNat * 7)).off + 1, none⟩ = some (.string ((rd_T39 l0_0 a0_1).f1)) ∧ w'.cell? ⟨(ad0_.add ((a0_1).toNat * 7)).block, (ad0_.add ((a0_1).toNat * 7)).off + 2, none⟩ = some (.slice A9000_2 ((rd_T39 l0_0 a0_1).f2).length c9000_2) ∧ w'.cell? ⟨(ad0_.add ((a0_1).toNat * 7)).block, (ad0_.add ((a0_1).toNat * 7)).off + 3, none⟩ = some (.slice (some ad224) ((rd_T39 l0_0 a0_1).f3).length c9000_3) ∧ w'.cell? ⟨(ad0_.add ((a0_1).toNat * 7)).block, (ad0_.add ((a0_1).toNat * 7)).off + 4, none⟩ = some (.slice A9000_4 ((rd_T39 l0_0 a0_1).f4).length c9000_4) ∧ w'.cell? ⟨(ad0_.add ((a0_1).toNat * 7)).block, (ad0_.add ((a0_1).toNat * 7)).off + 5, none⟩ = some (.slice A9000_5 ((rd_T39 l0_0 a0_1).f5).length c9000_5) ∧ w'.cell? ⟨(ad0_.add ((a0_1).toNat * 7)).block, (ad0_.add ((a0_1).toNat * 7)).off + 6, none⟩ = some (.int .i64 ((rd_T39 l0_0 a0_1).f6))) (ds := []) mkspec_l464_29 (by kernel_rfl) rfl rfl ⟨(cB HB.out hw223_0), (cB HB.out hw223_1), (cB HB.out hw223_2), (cB HB.out hw223_3), (cB HB.out hw223_4), (cB HB.out hw223_5), (cB HB.out hw223_6), (cB HB.out hw224_0), (cB HB.out hw225_0), (cB HB.out hw225_1), (cB HB.out hw225_2), (cB HB.out hw225_3), (cB HB.out hw225_4), (cB HB.out hw225_5), (cB HB.out hw225_6), (cB HB.out hw226_0), (cB HB.out hw227_0), (cB HB.out hw227_1), (cB HB.out hw227_2), (cB HB.out hw227_3), (cB HB.out hw227_4), (cB HB.out hw227_5), (cB HB.out hw227_6)⟩ (fun hHeld => ?_); refine with_tabW spec_l24Text_at.tab13 spec_l24Text_at.bits13 (fun HT_ HW_ => ?_)
             generalize w.drew = w48 at HB HR223_2 HR223_3 HR223_4 HR223_5 HR225_2 HR225_3 HR225_4 HR225_5 HR227_2 HR227_3 HR227_4 HR227_5 hx223_0 hx223_1 hx223_2 hx223_3 hx223_4 hx223_5 hx223_6 hx224_0 hx225_0 hx225_1 hx225_2 hx225_3 hx225_4 hx225_5 hx225_6 hx226_0 hx227_0 hx227_1 hx227_2 hx227_3 hx227_4 hx227_5 hx227_6 hHeld ⊢
             refine pQ (i := 0) (N := some 99) mkspec_l464_30 ?_
             refine pQ (i := 1) (N := some 100) mkspec_l464_31 ?_
             refine pQ (i := 2) (N := some 101) mkspec_l464_32 ?_
             refine pQ (i := 8) (N := some 107) mkspec_l464_33 ?_
             refine pQ (i := 9) (N := some 108) mkspec_l464_34 ?_
             refine pQ (i := 10) (N := some 109) mkspec_l464_35 ?_
             refine pQ (i := 16) (N := some 115) mkspec_l464_36 ?_
             refine pQ (i := 17) (N := some 116) mkspec_l464_37 ?_
             refine pQ (i := 18) (N := some 117) mkspec_l464_38 ?_
             refine tQ (i := 3) (N := some 102) mkspec_l464_39 rfl hHeld (Or.inl ⟨by rfl, by rintro w' ⟨s0, s1, s2, s3, s4, s5, s6, s7, s8, s9, s10, s11, s12, s13, s14, s15, s16, s17, s18, s19, s20, s21, s22⟩; go_simp; with_reducible rfl⟩) ?_
             refine pQ (i := 4) (N := some 103) mkspec_l464_40 ?_
             refine tQ (i := 5) (N := some 104) mkspec_l464_41 rfl hHeld (Or.inl ⟨by rfl, by rintro w' ⟨s0, s1, s2, s3, s4, s5, s6, s7, s8, s9, s10, s11, s12, s13, s14, s15, s16, s17, s18, s19, s20, s21, s22⟩; go_simp; with_reducible rfl⟩) ?_
             refine pQ (i := 6) (N := some 105) mkspec_l464_42 ?_
             refine pQ (i := 7) (N := some 106) mkspec_l464_43 ?_
             refine tQ (i := 11) (N := some 110) mkspec_l464_44 rfl hHeld (Or.inl ⟨by rfl, by rintro w' ⟨s0, s1, s2, s3, s4, s5, s6, s7, s8, s9, s10, s11, s12, s13, s14, s15, s16, s17, s18, s19, s20, s21, s22⟩; go_simp; with_reducible rfl⟩) ?_
             refine pQ (i := 12) (N := some 111) mkspec_l464_45 ?_
             refine tQ (i := 13) (N := some 112) mkspec_l464_46 rfl hHeld (Or.inl ⟨by rfl, by rintro w' ⟨s0, s1, s2, s3, s4, s5, s6, s7, s8, s9, s10, s11, s12, s13, s14, s15, s16, s17, s18, s19, s20, s21, s22⟩; go_simp; with_reducible rfl⟩) ?_
             refine pQ (i := 14) (N := some 113) mkspec_l464_47 ?_
             refine pQ (i := 15) (N := some 114) mkspec_l464_48 ?_
             refine tQ (i := 19) (N := some 118) mkspec_l464_49 rfl hHeld (Or.inl ⟨by rfl, by rintro w' ⟨s0, s1, s2, s3, s4, s5, s6, s7, s8, s9, s10, s11, s12, s13, s14, s15, s16, s17, s18, s19, s20, s21, s22⟩; go_simp; with_reducible rfl⟩) ?_
             refine pQ (i := 20) (N := some 119) mkspec_l464_50 ?_
             refine pQ (i := 21) (N := some 2) mkspec_l464_52 ?_
             refine done_ (done_of HT_.out (by kernel_rfl)) ?_
             try go_wp2
             go_ret
             exact ⟨eQ, bQ⟩
            ·rw [if_neg c47] at H
             exact absurd H (by simp)
           ·rw [if_neg c46] at H
            exact absurd H (by simp)
          ·rw [if_neg c45] at H
           exact absurd H (by simp)
         ·rw [if_neg c44] at H
          exact absurd H (by simp)
        ·rw [if_neg c43] at H
         exact absurd H (by simp)
       ·rw [if_neg c42] at H
        exact absurd H (by simp)
      ·rw [if_neg c41] at H
       exact absurd H (by simp)
     ·rw [if_neg c40] at H
      have c40b0 : (((rd_T39 l0_0 a0_1).f0) == 6) = false := beq_eq_false_iff_ne.mpr c40
      have c40b1 : (((rd_T39 l0_0 a0_1).f0) != 6) = true := bne_iff_ne.mpr c40
      by_cases c49 : ((rd_T39 l0_0 a0_1).f0) = 7
      ·rw [if_pos c49] at H
       have c49b0 : (((rd_T39 l0_0 a0_1).f0) == 7) = true := beq_iff_eq.mpr c49
       have c49b1 : (((rd_T39 l0_0 a0_1).f0) != 7) = false := bne_eq_false_iff_eq.mpr c49
       clear c49
       by_cases c50 : 5 + ((rd_T39 l0_0 a0_1).f1).size ≤ 9223372036854775807
       ·rw [if_pos c50] at H
        have c50b0 := eq_true c50
        have c50b1 : decide (5 + ((rd_T39 l0_0 a0_1).f1).size ≤ 9223372036854775807) = true := decide_eq_true c50
        try have c50b2 : (9223372036854775807 < 5 + ((rd_T39 l0_0 a0_1).f1).size) = False := eq_false (Nat.not_lt.2 c50)
        by_cases c51 : ((⟨#[106, 111, 105, 110, 32]⟩ : ByteArray) ++ ((rd_T39 l0_0 a0_1).f1)).size + 1 ≤ 9223372036854775807
        ·rw [if_pos c51] at H
         have c51b0 := eq_true c51
         have c51b1 : decide (((⟨#[106, 111, 105, 110, 32]⟩ : ByteArray) ++ ((rd_T39 l0_0 a0_1).f1)).size + 1 ≤ 9223372036854775807) = true := decide_eq_true c51
         try have c51b2 : (9223372036854775807 < ((⟨#[106, 111, 105, 110, 32]⟩ : ByteArray) ++ ((rd_T39 l0_0 a0_1).f1)).size + 1) = False := eq_false (Nat.not_lt.2 c51)
         try have c51b3 : (9223372036854775807 < 5 + ((rd_T39 l0_0 a0_1).f1).size + 1) = False := eq_false (Nat.not_lt.2 (by have h_ := c51; simp only [ByteArray.size_append] at h_; exact h_))
         try (have c51b6 := c51b0; simp only [ByteArray.size_append, ByteArray.size_extract, Nat.min_self, Int.natCast_add] at c51b6)
         try (have c51b7 := c51b1; simp only [ByteArray.size_append, ByteArray.size_extract, Nat.min_self, Int.natCast_add] at c51b7)
         replace H := Option.bind_eq_some_iff.mp H
         obtain ⟨t230, A520, H⟩ := H
         replace H : (if (((⟨#[106, 111, 105, 110, 32]⟩ : ByteArray) ++ ((rd_T39 l0_0 a0_1).f1)) ++ (⟨#[32]⟩ : ByteArray)).size + t230.size ≤ 9223372036854775807 then ((spec_l24Words.f k ((rd_T39 l0_0 a0_1).f5)).bind fun t232 => (if ((((⟨#[106, 111, 105, 110, 32]⟩ : ByteArray) ++ ((rd_T39 l0_0 a0_1).f1)) ++ (⟨#[32]⟩ : ByteArray)) ++ t230).size + t232.size ≤ 9223372036854775807 then (some (((((⟨#[106, 111, 105, 110, 32]⟩ : ByteArray) ++ ((rd_T39 l0_0 a0_1).f1)) ++ (⟨#[32]⟩ : ByteArray)) ++ t230) ++ t232)) else (none))) else (none)) = some r := H
         have A52 := aM A520
         clear A520
         by_cases c53 : (((⟨#[106, 111, 105, 110, 32]⟩ : ByteArray) ++ ((rd_T39 l0_0 a0_1).f1)) ++ (⟨#[32]⟩ : ByteArray)).size + t230.size ≤ 9223372036854775807
         ·rw [if_pos c53] at H
          have c53b0 := eq_true c53
          have c53b1 : decide ((((⟨#[106, 111, 105, 110, 32]⟩ : ByteArray) ++ ((rd_T39 l0_0 a0_1).f1)) ++ (⟨#[32]⟩ : ByteArray)).size + t230.size ≤ 9223372036854775807) = true := decide_eq_true c53
          try have c53b2 : (9223372036854775807 < (((⟨#[106, 111, 105, 110, 32]⟩ : ByteArray) ++ ((rd_T39 l0_0 a0_1).f1)) ++ (⟨#[32]⟩ : ByteArray)).size + t230.size) = False := eq_false (Nat.not_lt.2 c53)
          try have c53b3 : (9223372036854775807 < 5 + ((rd_T39 l0_0 a0_1).f1).size + 1 + t230.size) = False := eq_false (Nat.not_lt.2 (by have h_ := c53; simp only [ByteArray.size_append] at h_; exact h_))
          try (have c53b6 := c53b0; simp only [ByteArray.size_append, ByteArray.size_extract, Nat.min_self, Int.natCast_add] at c53b6)
          try (have c53b7 := c53b1; simp only [ByteArray.size_append, ByteArray.size_extract, Nat.min_self, Int.natCast_add] at c53b7)
          replace H := Option.bind_eq_some_iff.mp H
          obtain ⟨t232, A540, H⟩ := H
          replace H : (if ((((⟨#[106, 111, 105, 110, 32]⟩ : ByteArray) ++ ((rd_T39 l0_0 a0_1).f1)) ++ (⟨#[32]⟩ : ByteArray)) ++ t230).size + t232.size ≤ 9223372036854775807 then (some (((((⟨#[106, 111, 105, 110, 32]⟩ : ByteArray) ++ ((rd_T39 l0_0 a0_1).f1)) ++ (⟨#[32]⟩ : ByteArray)) ++ t230) ++ t232)) else (none)) = some r := H
          have A54 := aM A540
          clear A540
          by_cases c55 : ((((⟨#[106, 111, 105, 110, 32]⟩ : ByteArray) ++ ((rd_T39 l0_0 a0_1).f1)) ++ (⟨#[32]⟩ : ByteArray)) ++ t230).size + t232.size ≤ 9223372036854775807
          ·rw [if_pos c55] at H
           have c55b0 := eq_true c55
           have c55b1 : decide (((((⟨#[106, 111, 105, 110, 32]⟩ : ByteArray) ++ ((rd_T39 l0_0 a0_1).f1)) ++ (⟨#[32]⟩ : ByteArray)) ++ t230).size + t232.size ≤ 9223372036854775807) = true := decide_eq_true c55
           try have c55b2 : (9223372036854775807 < ((((⟨#[106, 111, 105, 110, 32]⟩ : ByteArray) ++ ((rd_T39 l0_0 a0_1).f1)) ++ (⟨#[32]⟩ : ByteArray)) ++ t230).size + t232.size) = False := eq_false (Nat.not_lt.2 c55)
           try have c55b3 : (9223372036854775807 < 5 + ((rd_T39 l0_0 a0_1).f1).size + 1 + t230.size + t232.size) = False := eq_false (Nat.not_lt.2 (by have h_ := c55; simp only [ByteArray.size_append] at h_; exact h_))
           try (have c55b6 := c55b0; simp only [ByteArray.size_append, ByteArray.size_extract, Nat.min_self, Int.natCast_add] at c55b6)
           try (have c55b7 := c55b1; simp only [ByteArray.size_append, ByteArray.size_extract, Nat.min_self, Int.natCast_add] at c55b7)
           obtain rfl := Option.some.inj H
           have hx200_0 := HX9000_0.out
           have hx200_1 := HX9000_1.out
           have hx200_2 := HX9000_2.out
           have hx200_3 := HX9000_3.out
           have hx200_4 := HX9000_4.out
           have hx200_5 := HX9000_5.out
           have hx200_6 := HX9000_6.out
           have HR200_2 := HR9000_2
           have HC200_2 := HC9000_2
           have HR200_3 := HR9000_3
           have HC200_3 := HC9000_3
           have HR200_4 := HR9000_4
           have HC200_4 := HC9000_4
           have HR200_5 := HR9000_5
           have HC200_5 := HC9000_5
           go_enter Try.func34, Try.ntmps34
           try go_wp2
           have n0_ := aM (below_drew1 HB.out)
           clear HB
           have HB := n0_
           clear n0_
           have hx228_0 := HX9000_0.out
           have hx228_1 := HX9000_1.out
           have hx228_2 := HX9000_2.out
           have hx228_3 := HX9000_3.out
           have hx228_4 := HX9000_4.out
           have hx228_5 := HX9000_5.out
           have hx228_6 := HX9000_6.out
           have hw228_6 := hx228_6
           have hw228_5 := hx228_5
           have hw228_4 := hx228_4
           have hw228_3 := hx228_3
           have hw228_2 := hx228_2
           have hw228_1 := hx228_1
           have hw228_0 := hx228_0
           replace hx228_0 := cB HB.out hx228_0
           replace hx228_1 := cB HB.out hx228_1
           replace hx228_2 := cB HB.out hx228_2
           replace hx228_3 := cB HB.out hx228_3
           replace hx228_4 := cB HB.out hx228_4
           replace hx228_5 := cB HB.out hx228_5
           replace hx228_6 := cB HB.out hx228_6
           have HR228_2 := HR9000_2
           have HC228_2 := HC9000_2
           have HR228_3 := HR9000_3
           have HC228_3 := HC9000_3
           have HR228_4 := HR9000_4
           have HC228_4 := HC9000_4
           have HR228_5 := HR9000_5
           have HC228_5 := HC9000_5
           have hx229_0 := HX9000_0.out
           have hx229_1 := HX9000_1.out
           have hx229_2 := HX9000_2.out
           have hx229_3 := HX9000_3.out
           have hx229_4 := HX9000_4.out
           have hx229_5 := HX9000_5.out
           have hx229_6 := HX9000_6.out
           have hw229_6 := hx229_6
           have hw229_5 := hx229_5
           have hw229_4 := hx229_4
           have hw229_3 := hx229_3
           have hw229_2 := hx229_2
           have hw229_1 := hx229_1
           have hw229_0 := hx229_0
           replace hx229_0 := cB HB.out hx229_0
           replace hx229_1 := cB HB.out hx229_1
           replace hx229_2 := cB HB.out hx229_2
           replace hx229_3 := cB HB.out hx229_3
           replace hx229_4 := cB HB.out hx229_4
           replace hx229_5 := cB HB.out hx229_5
           replace hx229_6 := cB HB.out hx229_6
           have HR229_2 := HR9000_2
           have HC229_2 := HC9000_2
           have HR229_3 := HR9000_3
           have HC229_3 := HC9000_3
           have HR229_4 := HR9000_4
           have HC229_4 := HC9000_4
           have HR229_5 := HR9000_5
           have HC229_5 := HC9000_5
           have hx231_0 := HX9000_0.out
           have hx231_1 := HX9000_1.out
           have hx231_2 := HX9000_2.out
           have hx231_3 := HX9000_3.out
           have hx231_4 := HX9000_4.out
           have hx231_5 := HX9000_5.out
           have hx231_6 := HX9000_6.out
           have hw231_6 := hx231_6
           have hw231_5 := hx231_5
           have hw231_4 := hx231_4
           have hw231_3 := hx231_3
           have hw231_2 := hx231_2
           have hw231_1 := hx231_1
           have hw231_0 := hx231_0
           replace hx231_0 := cB HB.out hx231_0
           replace hx231_1 := cB HB.out hx231_1
           replace hx231_2 := cB HB.out hx231_2
           replace hx231_3 := cB HB.out hx231_3
           replace hx231_4 := cB HB.out hx231_4
           replace hx231_5 := cB HB.out hx231_5
           replace hx231_6 := cB HB.out hx231_6
           have HR231_2 := HR9000_2
           have HC231_2 := HC9000_2
           have HR231_3 := HR9000_3
           have HC231_3 := HC9000_3
           have HR231_4 := HR9000_4
           have HC231_4 := HC9000_4
           have HR231_5 := HR9000_5
           have HC231_5 := HC9000_5
           refine start_ (n := 19) (S := fun w' => w'.cell? (ad0_.add ((a0_1).toNat * 7)) = some (.int .i64 ((rd_T39 l0_0 a0_1).f0)) ∧ w'.cell? ⟨(ad0_.add ((a0_1).toNat * 7)).block, (ad0_.add ((a0_1).toNat * 7)).off + 1, none⟩ = some (.string ((rd_T39 l0_0 a0_1).f1)) ∧ w'.cell? ⟨(ad0_.add ((a0_1).toNat * 7)).block, (ad0_.add ((a0_1).toNat * 7)).off + 2, none⟩ = some (.slice A9000_2 ((rd_T39 l0_0 a0_1).f2).length c9000_2) ∧ w'.cell? ⟨(ad0_.add ((a0_1).toNat * 7)).block, (ad0_.add ((a0_1).toNat * 7)).off + 3, none⟩ = some (.slice A9000_3 ((rd_T39 l0_0 a0_1).f3).length c9000_3) ∧ w'.cell? ⟨(ad0_.add ((a0_1).toNat * 7)).block, (ad0_.add ((a0_1).toNat * 7)).off + 4, none⟩ = some (.slice A9000_4 ((rd_T39 l0_0 a0_1).f4).length c9000_4) ∧ w'.cell? ⟨(ad0_.add ((a0_1).toNat * 7)).block, (ad0_.add ((a0_1).toNat * 7)).off + 5, none⟩ = some (.slice A9000_5 ((rd_T39 l0_0 a0_1).f5).length c9000_5) ∧ w'.cell? ⟨(ad0_.add ((a0_1).toNat * 7)).block, (ad0_.add ((a0_1).toNat * 7)).off + 6, none⟩ = some (.int .i64 ((rd_T39 l0_0 a0_1).f6)) ∧ w'.cell? (ad0_.add ((a0_1).toNat * 7)) = some (.int .i64 ((rd_T39 l0_0 a0_1).f0)) ∧ w'.cell? ⟨(ad0_.add ((a0_1).toNat * 7)).block, (ad0_.add ((a0_1).toNat * 7)).off + 1, none⟩ = some (.string ((rd_T39 l0_0 a0_1).f1)) ∧ w'.cell? ⟨(ad0_.add ((a0_1).toNat * 7)).block, (ad0_.add ((a0_1).toNat * 7)).off + 2, none⟩ = some (.slice A9000_2 ((rd_T39 l0_0 a0_1).f2).length c9000_2) ∧ w'.cell? ⟨(ad0_.add ((a0_1).toNat * 7)).block, (ad0_.add ((a0_1).toNat * 7)).off + 3, none⟩ = some (.slice A9000_3 ((rd_T39 l0_0 a0_1).f3).length c9000_3) ∧ w'.cell? ⟨(ad0_.add ((a0_1).toNat * 7)).block, (ad0_.add ((a0_1).toNat * 7)).off + 4, none⟩ = some (.slice A9000_4 ((rd_T39 l0_0 a0_1).f4).length c9000_4) ∧ w'.cell? ⟨(ad0_.add ((a0_1).toNat * 7)).block, (ad0_.add ((a0_1).toNat * 7)).off + 5, none⟩ = some (.slice A9000_5 ((rd_T39 l0_0 a0_1).f5).length c9000_5) ∧ w'.cell? ⟨(ad0_.add ((a0_1).toNat * 7)).block, (ad0_.add ((a0_1).toNat * 7)).off + 6, none⟩ = some (.int .i64 ((rd_T39 l0_0 a0_1).f6)) ∧ w'.cell? (ad0_.add ((a0_1).toNat * 7)) = some (.int .i64 ((rd_T39 l0_0 a0_1).f0)) ∧ w'.cell? ⟨(ad0_.add ((a0_1).toNat * 7)).block, (ad0_.add ((a0_1).toNat * 7)).off + 1, none⟩ = some (.string ((rd_T39 l0_0 a0_1).f1)) ∧ w'.cell? ⟨(ad0_.add ((a0_1).toNat * 7)).block, (ad0_.add ((a0_1).toNat * 7)).off + 2, none⟩ = some (.slice A9000_2 ((rd_T39 l0_0 a0_1).f2).length c9000_2) ∧ w'.cell? ⟨(ad0_.add ((a0_1).toNat * 7)).block, (ad0_.add ((a0_1).toNat * 7)).off + 3, none⟩ = some (.slice A9000_3 ((rd_T39 l0_0 a0_1).f3).length c9000_3) ∧ w'.cell? ⟨(ad0_.add ((a0_1).toNat * 7)).block, (ad0_.add ((a0_1).toNat * 7)).off + 4, none⟩ = some (.slice A9000_4 ((rd_T39 l0_0 a0_1).f4).length c9000_4) ∧ w'.cell? ⟨(ad0_.add ((a0_1).toNat * 7)).block, (ad0_.add ((a0_1).toNat * 7)).off + 5, none⟩ = some (.slice A9000_5 ((rd_T39 l0_0 a0_1).f5).length c9000_5) ∧ w'.cell? ⟨(ad0_.add ((a0_1).toNat * 7)).block, (ad0_.add ((a0_1).toNat * 7)).off + 6, none⟩ = some (.int .i64 ((rd_T39 l0_0 a0_1).f6))) (ds := []) mkspec_l464_51 (by kernel_rfl) rfl rfl ⟨(cB HB.out hw228_0), (cB HB.out hw228_1), (cB HB.out hw228_2), (cB HB.out hw228_3), (cB HB.out hw228_4), (cB HB.out hw228_5), (cB HB.out hw228_6), (cB HB.out hw229_0), (cB HB.out hw229_1), (cB HB.out hw229_2), (cB HB.out hw229_3), (cB HB.out hw229_4), (cB HB.out hw229_5), (cB HB.out hw229_6), (cB HB.out hw231_0), (cB HB.out hw231_1), (cB HB.out hw231_2), (cB HB.out hw231_3), (cB HB.out hw231_4), (cB HB.out hw231_5), (cB HB.out hw231_6)⟩ (fun hHeld => ?_); refine with_tabW spec_l24Text_at.tab15 spec_l24Text_at.bits15 (fun HT_ HW_ => ?_)
           generalize w.drew = w56 at HB HR228_2 HR228_3 HR228_4 HR228_5 HR229_2 HR229_3 HR229_4 HR229_5 HR231_2 HR231_3 HR231_4 HR231_5 hx228_0 hx228_1 hx228_2 hx228_3 hx228_4 hx228_5 hx228_6 hx229_0 hx229_1 hx229_2 hx229_3 hx229_4 hx229_5 hx229_6 hx231_0 hx231_1 hx231_2 hx231_3 hx231_4 hx231_5 hx231_6 hHeld ⊢
           refine pQ (i := 0) (N := some 122) mkspec_l464_53 ?_
           refine pQ (i := 1) (N := some 123) mkspec_l464_54 ?_
           refine pQ (i := 2) (N := some 124) mkspec_l464_55 ?_
           refine pQ (i := 6) (N := some 128) mkspec_l464_56 ?_
           refine pQ (i := 7) (N := some 129) mkspec_l464_57 ?_
           refine pQ (i := 8) (N := some 130) mkspec_l464_58 ?_
           refine pQ (i := 12) (N := some 134) mkspec_l464_59 ?_
           refine pQ (i := 13) (N := some 135) mkspec_l464_60 ?_
           refine pQ (i := 14) (N := some 136) mkspec_l464_61 ?_
           refine tQ (i := 3) (N := some 125) mkspec_l464_62 rfl hHeld (Or.inl ⟨by rfl, by rintro w' ⟨s0, s1, s2, s3, s4, s5, s6, s7, s8, s9, s10, s11, s12, s13, s14, s15, s16, s17, s18, s19, s20⟩; go_simp; with_reducible rfl⟩) ?_
           refine pQ (i := 4) (N := some 126) mkspec_l464_63 ?_
           refine pQ (i := 5) (N := some 127) mkspec_l464_64 ?_
           refine tQ (i := 9) (N := some 131) mkspec_l464_65 rfl hHeld (Or.inl ⟨by rfl, by rintro w' ⟨s0, s1, s2, s3, s4, s5, s6, s7, s8, s9, s10, s11, s12, s13, s14, s15, s16, s17, s18, s19, s20⟩; go_simp; with_reducible rfl⟩) ?_
           refine tQ (i := 15) (N := some 137) mkspec_l464_66 rfl hHeld (Or.inl ⟨by rfl, by rintro w' ⟨s0, s1, s2, s3, s4, s5, s6, s7, s8, s9, s10, s11, s12, s13, s14, s15, s16, s17, s18, s19, s20⟩; go_simp; with_reducible rfl⟩) ?_
           refine one_ (i := 10) (N := some 132) mkspec_l464_67 rfl rfl (one_of HT_.out (by kernel_rfl)) (by decide) (fun K hK => ?_)
           refine goes_ Try.func58 (by kernel_rfl) rfl #[.int .i64 ((rd_T39 l0_0 a0_1).f6)] (by rfl) rfl rfl gQ ?_
           with_reducible refine (spec_l24Kind.calls ((rd_T39 l0_0 a0_1).f6) t230 _ A52.out).mono ?_
           rintro e w57 ⟨rfl, hb⟩
           refine ⟨_, rfl, ?_⟩
           have n0_ := aM (below_step bQ hb)
           clear HB
           have HB := n0_
           clear n0_
           (try clear hb)
           (try clear hb2)
           (try clear hk)
           (try clear hi)
           refine hK.out _ _ ⟨(cB HB.out hw228_0), (cB HB.out hw228_1), (cB HB.out hw228_2), (cB HB.out hw228_3), (cB HB.out hw228_4), (cB HB.out hw228_5), (cB HB.out hw228_6), (cB HB.out hw229_0), (cB HB.out hw229_1), (cB HB.out hw229_2), (cB HB.out hw229_3), (cB HB.out hw229_4), (cB HB.out hw229_5), (cB HB.out hw229_6), (cB HB.out hw231_0), (cB HB.out hw231_1), (cB HB.out hw231_2), (cB HB.out hw231_3), (cB HB.out hw231_4), (cB HB.out hw231_5), (cB HB.out hw231_6)⟩ (fun hHeld => ?_)
           clear hK K
           refine norm_ (a' := ?_) ?_ ?_
           rotate_left
           ·show Act.put _ (some 132) _ = _
            simp only [Act.put, sI, sZ, sS, i64_w, i32_w]
            rfl
           refine pQ (i := 11) (N := some 133) mkspec_l464_68 ?_
           refine one_ (i := 16) (N := some 138) mkspec_l464_69 rfl rfl (one_of HT_.out (by kernel_rfl)) (by decide) (fun K hK => ?_)
           refine goes_ Try.func56 (by kernel_rfl) rfl #[.slice A9000_5 ((rd_T39 l0_0 a0_1).f5).length c9000_5] (by rfl) rfl rfl gQ ?_
           with_reducible refine (spec_l24Words.calls k _ _ ((rd_T39 l0_0 a0_1).f5) t232 _ ?side1 ?side2 A54.out).mono ?_
           (case side1 => exact cQ HR231_5.out)
           (case side2 => exact HC231_5.out)
           rintro e w' ⟨rfl, ⟨nd, rfl⟩⟩
           refine ⟨_, rfl, ?_⟩
           refine hK.out _ _ ⟨(cB HB.out hw228_0), (cB HB.out hw228_1), (cB HB.out hw228_2), (cB HB.out hw228_3), (cB HB.out hw228_4), (cB HB.out hw228_5), (cB HB.out hw228_6), (cB HB.out hw229_0), (cB HB.out hw229_1), (cB HB.out hw229_2), (cB HB.out hw229_3), (cB HB.out hw229_4), (cB HB.out hw229_5), (cB HB.out hw229_6), (cB HB.out hw231_0), (cB HB.out hw231_1), (cB HB.out hw231_2), (cB HB.out hw231_3), (cB HB.out hw231_4), (cB HB.out hw231_5), (cB HB.out hw231_6)⟩ (fun hHeld => ?_)
           clear hK K
           refine norm_ (a' := ?_) ?_ ?_
           rotate_left
           ·show Act.put _ (some 138) _ = _
            simp only [Act.put, sI, sZ, sS, i64_w, i32_w]
            rfl
           refine pQ (i := 17) (N := some 139) mkspec_l464_70 ?_
           refine pQ (i := 18) (N := some 2) mkspec_l464_71 ?_
           refine done_ (done_of HT_.out (by kernel_rfl)) ?_
           try go_wp2
           go_ret
           exact ⟨eQ, bQ⟩
          ·rw [if_neg c55] at H
           exact absurd H (by simp)
         ·rw [if_neg c53] at H
          exact absurd H (by simp)
        ·rw [if_neg c51] at H
         exact absurd H (by simp)
       ·rw [if_neg c50] at H
        exact absurd H (by simp)
      ·rw [if_neg c49] at H
       have c49b0 : (((rd_T39 l0_0 a0_1).f0) == 7) = false := beq_eq_false_iff_ne.mpr c49
       have c49b1 : (((rd_T39 l0_0 a0_1).f0) != 7) = true := bne_iff_ne.mpr c49
       obtain rfl := Option.some.inj H
       have hx200_0 := HX9000_0.out
       have hx200_1 := HX9000_1.out
       have hx200_2 := HX9000_2.out
       have hx200_3 := HX9000_3.out
       have hx200_4 := HX9000_4.out
       have hx200_5 := HX9000_5.out
       have hx200_6 := HX9000_6.out
       have HR200_2 := HR9000_2
       have HC200_2 := HC9000_2
       have HR200_3 := HR9000_3
       have HC200_3 := HC9000_3
       have HR200_4 := HR9000_4
       have HC200_4 := HC9000_4
       have HR200_5 := HR9000_5
       have HC200_5 := HC9000_5
       go_enter Try.func34, Try.ntmps34
       go_wp2
       go_ret
       exact ⟨eQ, bQ⟩

end Go.Proofs.Ytfabhfdjabehpaa.QFnExactLineText
