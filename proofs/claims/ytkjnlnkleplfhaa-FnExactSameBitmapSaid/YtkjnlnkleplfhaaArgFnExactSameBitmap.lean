/- What the arguments of FnExactSameBitmap hold where the call begins, and the plain statement that is left. -/
import Derived.Test.YtkjnlnkleplfhaaQFnExactSameBitmapx3
import Derived.Test.YtkjnlnkleplfhaaOpen
import Derived.KernelRfl
namespace Go.Proofs.Ytkjnlnkleplfhaa.ArgFnExactSameBitmap
open Go.RowKit Go.Proofs.Ytkjnlnkleplfhaa.QFnExactSameBitmap Go.Proofs.YtkjnlnkleplfhaaW.PrintWords Go.Proofs.YtkjnlnkleplfhaaW.PrintLast Go.Proofs.Ytkjnlnkleplfhaa.Open
set_option linter.unusedVariables false
def w2 (n : Int) : Prop := (Lit.int .i64 n).wf = true
theorem o2 (W : World) : Opens Try.prog W 2 (Kd.int .i64) w2 := Opens.int Try.underlying2
def w9 (s : ByteArray) : Prop := s.size ≤ 9223372036854775807
theorem o9 (W : World) : Opens Try.prog W 9 Kd.string w9 := Opens.string Try.underlying9
def w30 (xs : List (ByteArray)) : Prop := xs.length ≤ 9223372036854775807 ∧ ∀ x ∈ xs, w9 x
theorem o30 (W : World) : Opens Try.prog W 30 (Kd.slice 9 Kd.string) w30 := Opens.slice Try.underlying30 (o9 W) (by kernel_rfl)
/-- What is left to prove. -/
def Owed : Prop := ∀ (a0_0 : Int) (a0_1 : Int) (a0_2 : Int) (l0_3 : List (ByteArray)) (a1_0 : Int) (a1_1 : Int) (a1_2 : Int) (l1_3 : List (ByteArray)), w2 a0_0 → w2 a0_1 → w2 a0_2 → w30 l0_3 → w2 a1_0 → w2 a1_1 → w2 a1_2 → w30 l1_3 → ∃ k, laws_FnExactSameBitmap.f k a0_0 a0_1 a0_2 l0_3 a1_0 a1_1 a1_2 l1_3 = some true
end Go.Proofs.Ytkjnlnkleplfhaa.ArgFnExactSameBitmap
