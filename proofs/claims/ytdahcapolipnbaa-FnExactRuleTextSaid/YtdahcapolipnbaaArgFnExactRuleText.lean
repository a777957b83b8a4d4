/- What the arguments of FnExactRuleText hold where the call begins, and the plain statement that is left. -/
import Derived.Test.YtdahcapolipnbaaQFnExactRuleTextx8
import Derived.Test.YtdahcapolipnbaaOpen
import Derived.KernelRfl
namespace Go.Proofs.Ytdahcapolipnbaa.ArgFnExactRuleText
open Go.RowKit Go.Proofs.Ytdahcapolipnbaa.QFnExactRuleText Go.Proofs.YtdahcapolipnbaaW.PrintWords Go.Proofs.YtdahcapolipnbaaW.PrintLast Go.Proofs.Ytdahcapolipnbaa.Open
set_option linter.unusedVariables false
def w2 (n : Int) : Prop := (Lit.int .i64 n).wf = true
theorem o2 (W : World) : Opens Try.prog W 2 (Kd.int .i64) w2 := Opens.int Try.underlying2
def w22 (xs : List (Int)) : Prop := xs.length ≤ 9223372036854775807 ∧ ∀ x ∈ xs, w2 x
theorem o22 (W : World) : Opens Try.prog W 22 (Kd.slice 2 (Kd.int .i64)) w22 := Opens.slice Try.underlying22 (o2 W) (by kernel_rfl)
def w33 (xs : List (List (Int))) : Prop := xs.length ≤ 9223372036854775807 ∧ ∀ x ∈ xs, w22 x
theorem o33 (W : World) : Opens Try.prog W 33 (Kd.slice 22 (Kd.slice 2 (Kd.int .i64))) w33 := Opens.slice Try.underlying33 (o22 W) (by kernel_rfl)
/-- What is left to prove. -/
def Owed : Prop := ∀ (l0_0 : List (List (Int))) (l0_1 : List (List (Int))) (l0_2 : List (List (Int))) (l0_3 : List (Int)), w33 l0_0 → w33 l0_1 → w33 l0_2 → w22 l0_3 → ∃ k, laws_FnExactRuleText.f k l0_0 l0_1 l0_2 l0_3 = some true
end Go.Proofs.Ytdahcapolipnbaa.ArgFnExactRuleText
