/- What the arguments of FnExactLineText hold where the call begins, and the plain statement that is left. -/
import Derived.Test.YtfabhfdjabehpaaQFnExactLineTextx11
import Derived.Test.YtfabhfdjabehpaaOpen
import Derived.KernelRfl
namespace Go.Proofs.Ytfabhfdjabehpaa.ArgFnExactLineText
open Go.RowKit Go.Proofs.Ytfabhfdjabehpaa.QFnExactLineText Go.Proofs.YtfabhfdjabehpaaW.PrintWords Go.Proofs.YtfabhfdjabehpaaW.PrintLast Go.Proofs.Ytfabhfdjabehpaa.Open
set_option linter.unusedVariables false
def w2 (n : Int) : Prop := (Lit.int .i64 n).wf = true
theorem o2 (W : World) : Opens Try.prog W 2 (Kd.int .i64) w2 := Opens.int Try.underlying2
def w9 (s : ByteArray) : Prop := s.size ≤ 9223372036854775807
theorem o9 (W : World) : Opens Try.prog W 9 Kd.string w9 := Opens.string Try.underlying9
def w34 (xs : List (ByteArray)) : Prop := xs.length ≤ 9223372036854775807 ∧ ∀ x ∈ xs, w9 x
theorem o34 (W : World) : Opens Try.prog W 34 (Kd.slice 9 Kd.string) w34 := Opens.slice Try.underlying34 (o9 W) (by kernel_rfl)
/-- What is left to prove. -/
def Owed : Prop := ∀ (a0_0 : Int) (a0_1 : ByteArray) (l0_2 : List (ByteArray)) (l0_3 : List (ByteArray)) (l0_4 : List (ByteArray)) (l0_5 : List (ByteArray)) (a0_6 : Int), w2 a0_0 → w9 a0_1 → w34 l0_2 → w34 l0_3 → w34 l0_4 → w34 l0_5 → w2 a0_6 → ∃ k, laws_FnExactLineText.f k a0_0 a0_1 l0_2 l0_3 l0_4 l0_5 a0_6 = some true
end Go.Proofs.Ytfabhfdjabehpaa.ArgFnExactLineText
