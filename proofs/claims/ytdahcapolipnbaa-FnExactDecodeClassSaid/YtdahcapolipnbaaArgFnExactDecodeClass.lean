/- What the arguments of FnExactDecodeClass hold where the call begins, and the plain statement that is left. -/
import Derived.Test.YtdahcapolipnbaaQFnExactDecodeClassx9
import Derived.Test.YtdahcapolipnbaaOpen
import Derived.KernelRfl
namespace Go.Proofs.Ytdahcapolipnbaa.ArgFnExactDecodeClass
open Go.RowKit Go.Proofs.Ytdahcapolipnbaa.QFnExactDecodeClass Go.Proofs.YtdahcapolipnbaaW.PrintWords Go.Proofs.YtdahcapolipnbaaW.PrintLast Go.Proofs.Ytdahcapolipnbaa.Open
set_option linter.unusedVariables false
def w9 (s : ByteArray) : Prop := s.size ≤ 9223372036854775807
theorem o9 (W : World) : Opens Try.prog W 9 Kd.string w9 := Opens.string Try.underlying9
def w2 (n : Int) : Prop := (Lit.int .i64 n).wf = true
theorem o2 (W : World) : Opens Try.prog W 2 (Kd.int .i64) w2 := Opens.int Try.underlying2
/-- What is left to prove. -/
def Owed : Prop := ∀ (a0 : ByteArray) (a1 : Int), w9 a0 → w2 a1 → ∃ k, laws_FnExactDecodeClass.f k a0 a1 = some true
end Go.Proofs.Ytdahcapolipnbaa.ArgFnExactDecodeClass
