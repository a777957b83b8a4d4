/- What the arguments of FnExactDifferentPixels hold where the call begins, and the plain statement that is left. -/
import Derived.Test.YthngjfipdfckkaaDoorQFnExactDifferentPixelsx6
import Derived.Test.YthngjfipdfckkaaDoorOpen
import Derived.KernelRfl
namespace Go.Proofs.YthngjfipdfckkaaDoor.ArgFnExactDifferentPixels
open Go.RowKit Go.Proofs.YthngjfipdfckkaaDoor.QFnExactDifferentPixels Go.Proofs.YthngjfipdfckkaaDoorW.PrintWords Go.Proofs.YthngjfipdfckkaaDoorW.PrintLast Go.Proofs.YthngjfipdfckkaaDoor.Open
set_option linter.unusedVariables false
def w2 (n : Int) : Prop := (Lit.int .i64 n).wf = true
theorem o2 (W : World) : Opens Tryd.prog W 2 (Kd.int .i64) w2 := Opens.int Tryd.underlying2
def w9 (s : ByteArray) : Prop := s.size ≤ 9223372036854775807
theorem o9 (W : World) : Opens Tryd.prog W 9 Kd.string w9 := Opens.string Tryd.underlying9
def w22 (xs : List (ByteArray)) : Prop := xs.length ≤ 9223372036854775807 ∧ ∀ x ∈ xs, w9 x
theorem o22 (W : World) : Opens Tryd.prog W 22 (Kd.slice 9 Kd.string) w22 := Opens.slice Tryd.underlying22 (o9 W) (by kernel_rfl)
/-- What is left to prove. -/
def Owed : Prop := ∀ (a0_0 : Int) (a0_1 : Int) (a0_2 : Int) (l0_3 : List (ByteArray)) (a1_0 : Int) (a1_1 : Int) (a1_2 : Int) (l1_3 : List (ByteArray)), w2 a0_0 → w2 a0_1 → w2 a0_2 → w22 l0_3 → w2 a1_0 → w2 a1_1 → w2 a1_2 → w22 l1_3 → ∃ k, laws_FnExactDifferentPixels.f k a0_0 a0_1 a0_2 l0_3 a1_0 a1_1 a1_2 l1_3 = some true
end Go.Proofs.YthngjfipdfckkaaDoor.ArgFnExactDifferentPixels
