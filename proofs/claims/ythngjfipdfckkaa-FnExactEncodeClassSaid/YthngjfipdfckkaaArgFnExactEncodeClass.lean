/- What the arguments of FnExactEncodeClass hold where the call begins, and the plain statement that is left. -/
import Derived.Test.YthngjfipdfckkaaQFnExactEncodeClassx4
import Derived.Test.YthngjfipdfckkaaOpen
import Derived.KernelRfl
namespace Go.Proofs.Ythngjfipdfckkaa.ArgFnExactEncodeClass
open Go.RowKit Go.Proofs.Ythngjfipdfckkaa.QFnExactEncodeClass Go.Proofs.YthngjfipdfckkaaW.PrintWords Go.Proofs.YthngjfipdfckkaaW.PrintLast Go.Proofs.Ythngjfipdfckkaa.Open
set_option linter.unusedVariables false
def w2 (n : Int) : Prop := (Lit.int .i64 n).wf = true
theorem o2 (W : World) : Opens Try.prog W 2 (Kd.int .i64) w2 := Opens.int Try.underlying2
def w22 (xs : List (Int)) : Prop := xs.length ≤ 9223372036854775807 ∧ ∀ x ∈ xs, w2 x
theorem o22 (W : World) : Opens Try.prog W 22 (Kd.slice 2 (Kd.int .i64)) w22 := Opens.slice Try.underlying22 (o2 W) (by kernel_rfl)
/-- What is left to prove. -/
def Owed : Prop := ∀ (l0 : List (Int)), w22 l0 → ∃ k, laws_FnExactEncodeClass.f k l0 = some true
end Go.Proofs.Ythngjfipdfckkaa.ArgFnExactEncodeClass
