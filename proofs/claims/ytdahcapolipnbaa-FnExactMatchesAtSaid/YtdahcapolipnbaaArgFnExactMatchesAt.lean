/- What the arguments of FnExactMatchesAt hold where the call begins, and the plain statement that is left. -/
import Derived.Test.YtdahcapolipnbaaQFnExactMatchesAtx11
import Derived.Test.YtdahcapolipnbaaOpen
import Derived.KernelRfl
namespace Go.Proofs.Ytdahcapolipnbaa.ArgFnExactMatchesAt
open Go.RowKit Go.Proofs.Ytdahcapolipnbaa.QFnExactMatchesAt Go.Proofs.YtdahcapolipnbaaW.PrintWords Go.Proofs.YtdahcapolipnbaaW.PrintLast Go.Proofs.Ytdahcapolipnbaa.Open
set_option linter.unusedVariables false
def w2 (n : Int) : Prop := (Lit.int .i64 n).wf = true
theorem o2 (W : World) : Opens Try.prog W 2 (Kd.int .i64) w2 := Opens.int Try.underlying2
def w22 (xs : List (Int)) : Prop := xs.length ≤ 9223372036854775807 ∧ ∀ x ∈ xs, w2 x
theorem o22 (W : World) : Opens Try.prog W 22 (Kd.slice 2 (Kd.int .i64)) w22 := Opens.slice Try.underlying22 (o2 W) (by kernel_rfl)
def w33 (xs : List (List (Int))) : Prop := xs.length ≤ 9223372036854775807 ∧ ∀ x ∈ xs, w22 x
theorem o33 (W : World) : Opens Try.prog W 33 (Kd.slice 22 (Kd.slice 2 (Kd.int .i64))) w33 := Opens.slice Try.underlying33 (o22 W) (by kernel_rfl)
def w109 (x : S109) : Prop := w2 x.f0 ∧ w2 x.f1 ∧ w2 x.f2
theorem o109 (W : World) : Opens Try.prog W 109 k109 w109 :=
  Opens.iso (f := fun x : S109 => (x.f0, x.f1, x.f2)) (fun p => ⟨p.1, p.2.1, p.2.2⟩) (fun _ => rfl) (Opens.struct Try.underlying109 (by kernel_rfl) (OpensF.more rfl (by kernel_rfl) (o2 W) rfl (OpensF.more rfl (by kernel_rfl) (o2 W) rfl (OpensF.one rfl (by kernel_rfl) (o2 W)))))
def w42 (xs : List (S109)) : Prop := xs.length ≤ 9223372036854775807 ∧ ∀ x ∈ xs, w109 x
theorem o42 (W : World) : Opens Try.prog W 42 (Kd.slice 109 k109) w42 := Opens.slice Try.underlying42 (o109 W) (by kernel_rfl)
/-- What is left to prove. -/
def Owed : Prop := ∀ (l0_0 : List (List (Int))) (l0_1 : List (List (Int))) (l0_2 : List (List (Int))) (l0_3 : List (Int)) (l1 : List (S109)) (a2 : Int), w33 l0_0 → w33 l0_1 → w33 l0_2 → w22 l0_3 → w42 l1 → w2 a2 → ∃ k, laws_FnExactMatchesAt.f k l0_0 l0_1 l0_2 l0_3 l1 a2 = some true
end Go.Proofs.Ytdahcapolipnbaa.ArgFnExactMatchesAt
