/- What the arguments of FnExactSameLine hold where the call begins, and the plain statement that is left. -/
import Derived.Test.YtkjnlnkleplfhaaQFnExactSameLinex3
import Derived.Test.YtkjnlnkleplfhaaOpen
import Derived.KernelRfl
namespace Go.Proofs.Ytkjnlnkleplfhaa.ArgFnExactSameLine
open Go.RowKit Go.Proofs.Ytkjnlnkleplfhaa.QFnExactSameLine Go.Proofs.YtkjnlnkleplfhaaW.PrintWords Go.Proofs.YtkjnlnkleplfhaaW.PrintLast Go.Proofs.Ytkjnlnkleplfhaa.Open
set_option linter.unusedVariables false
def w2 (n : Int) : Prop := (Lit.int .i64 n).wf = true
theorem o2 (W : World) : Opens Try.prog W 2 (Kd.int .i64) w2 := Opens.int Try.underlying2
def w9 (s : ByteArray) : Prop := s.size ≤ 9223372036854775807
theorem o9 (W : World) : Opens Try.prog W 9 Kd.string w9 := Opens.string Try.underlying9
def w30 (xs : List (ByteArray)) : Prop := xs.length ≤ 9223372036854775807 ∧ ∀ x ∈ xs, w9 x
theorem o30 (W : World) : Opens Try.prog W 30 (Kd.slice 9 Kd.string) w30 := Opens.slice Try.underlying30 (o9 W) (by kernel_rfl)
/-- What is left to prove. -/
def Owed : Prop := ∀ (a0_0 : Int) (a0_1 : ByteArray) (l0_2 : List (ByteArray)) (l0_3 : List (ByteArray)) (l0_4 : List (ByteArray)) (l0_5 : List (ByteArray)) (a0_6 : Int) (a1_0 : Int) (a1_1 : ByteArray) (l1_2 : List (ByteArray)) (l1_3 : List (ByteArray)) (l1_4 : List (ByteArray)) (l1_5 : List (ByteArray)) (a1_6 : Int), w2 a0_0 → w9 a0_1 → w30 l0_2 → w30 l0_3 → w30 l0_4 → w30 l0_5 → w2 a0_6 → w2 a1_0 → w9 a1_1 → w30 l1_2 → w30 l1_3 → w30 l1_4 → w30 l1_5 → w2 a1_6 → ∃ k, laws_FnExactSameLine.f k a0_0 a0_1 l0_2 l0_3 l0_4 l0_5 a0_6 a1_0 a1_1 l1_2 l1_3 l1_4 l1_5 a1_6 = some true
end Go.Proofs.Ytkjnlnkleplfhaa.ArgFnExactSameLine
