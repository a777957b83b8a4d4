/- What the arguments of FnExactValidRule hold where the call begins, and the plain statement that is left. -/
import Derived.Test.YtkjnlnkleplfhaaQFnExactValidRulex5
import Derived.Test.YtkjnlnkleplfhaaOpen
import Derived.KernelRfl
namespace Go.Proofs.Ytkjnlnkleplfhaa.ArgFnExactValidRule
open Go.RowKit Go.Proofs.Ytkjnlnkleplfhaa.QFnExactValidRule Go.Proofs.YtkjnlnkleplfhaaW.PrintWords Go.Proofs.YtkjnlnkleplfhaaW.PrintLast Go.Proofs.Ytkjnlnkleplfhaa.Open
set_option linter.unusedVariables false
def w2 (n : Int) : Prop := (Lit.int .i64 n).wf = true
theorem o2 (W : World) : Opens Try.prog W 2 (Kd.int .i64) w2 := Opens.int Try.underlying2
def w22 (xs : List (Int)) : Prop := xs.length ≤ 9223372036854775807 ∧ ∀ x ∈ xs, w2 x
theorem o22 (W : World) : Opens Try.prog W 22 (Kd.slice 2 (Kd.int .i64)) w22 := Opens.slice Try.underlying22 (o2 W) (by kernel_rfl)
def w66 (xs : List (List (Int))) : Prop := xs.length ≤ 9223372036854775807 ∧ ∀ x ∈ xs, w22 x
theorem o66 (W : World) : Opens Try.prog W 66 (Kd.slice 22 (Kd.slice 2 (Kd.int .i64))) w66 := Opens.slice Try.underlying66 (o22 W) (by kernel_rfl)
/-- What is left to prove. -/
def Owed : Prop := ∀ (l0_0 : List (List (Int))) (l0_1 : List (List (Int))) (l0_2 : List (List (Int))) (l0_3 : List (Int)), w66 l0_0 → w66 l0_1 → w66 l0_2 → w22 l0_3 → ∃ k, laws_FnExactValidRule.f k l0_0 l0_1 l0_2 l0_3 = some true
end Go.Proofs.Ytkjnlnkleplfhaa.ArgFnExactValidRule
