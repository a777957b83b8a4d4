/- What the arguments of FnExactIsItem hold where the call begins, and the plain statement that is left. -/
import Derived.Test.YtkjnlnkleplfhaaPFnExactIsItemx2
import Derived.Test.YtkjnlnkleplfhaaOpen
import Derived.KernelRfl
namespace Go.Proofs.Ytkjnlnkleplfhaa.ArgFnExactIsItem
open Go.RowKit Go.Proofs.Ytkjnlnkleplfhaa.PFnExactIsItem Go.Proofs.YtkjnlnkleplfhaaW.PrintWords Go.Proofs.YtkjnlnkleplfhaaW.PrintLast Go.Proofs.Ytkjnlnkleplfhaa.Open
set_option linter.unusedVariables false
def w9 (s : ByteArray) : Prop := s.size ≤ 9223372036854775807
theorem o9 (W : World) : Opens Try.prog W 9 Kd.string w9 := Opens.string Try.underlying9
/-- What is left to prove. -/
def Owed : Prop := ∀ (a0 : ByteArray), w9 a0 → ∃ k, laws_FnExactIsItem.f k a0 = some true
end Go.Proofs.Ytkjnlnkleplfhaa.ArgFnExactIsItem
