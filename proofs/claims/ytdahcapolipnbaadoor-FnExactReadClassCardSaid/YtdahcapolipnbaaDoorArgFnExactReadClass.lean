/- What the arguments of FnExactReadClass hold where the call begins, and the plain statement that is left. -/
import Derived.Test.YtdahcapolipnbaaDoorQFnExactReadClassx8
import Derived.Test.YtdahcapolipnbaaDoorOpen
import Derived.KernelRfl
namespace Go.Proofs.YtdahcapolipnbaaDoor.ArgFnExactReadClass
open Go.RowKit Go.Proofs.YtdahcapolipnbaaDoor.QFnExactReadClass Go.Proofs.YtdahcapolipnbaaDoorW.PrintWords Go.Proofs.YtdahcapolipnbaaDoorW.PrintLast Go.Proofs.YtdahcapolipnbaaDoor.Open
set_option linter.unusedVariables false
def w9 (s : ByteArray) : Prop := s.size ≤ 9223372036854775807
theorem o9 (W : World) : Opens Tryd.prog W 9 Kd.string w9 := Opens.string Tryd.underlying9
/-- What is left to prove. -/
def Owed : Prop := ∀ (a0 : ByteArray), w9 a0 → ∃ k, laws_FnExactReadClass.f k a0 = some true
end Go.Proofs.YtdahcapolipnbaaDoor.ArgFnExactReadClass
