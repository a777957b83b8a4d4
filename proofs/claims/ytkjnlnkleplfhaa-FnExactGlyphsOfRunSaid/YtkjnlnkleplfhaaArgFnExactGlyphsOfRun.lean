/- What the arguments of FnExactGlyphsOfRun hold where the call begins, and the plain statement that is left. -/
import Derived.Test.YtkjnlnkleplfhaaQFnExactGlyphsOfRunx4
import Derived.Test.YtkjnlnkleplfhaaOpen
import Derived.KernelRfl
namespace Go.Proofs.Ytkjnlnkleplfhaa.ArgFnExactGlyphsOfRun
open Go.RowKit Go.Proofs.Ytkjnlnkleplfhaa.QFnExactGlyphsOfRun Go.Proofs.YtkjnlnkleplfhaaW.PrintWords Go.Proofs.YtkjnlnkleplfhaaW.PrintLast Go.Proofs.Ytkjnlnkleplfhaa.Open
set_option linter.unusedVariables false
def w2 (n : Int) : Prop := (Lit.int .i64 n).wf = true
theorem o2 (W : World) : Opens Try.prog W 2 (Kd.int .i64) w2 := Opens.int Try.underlying2
def w98 (x : S98) : Prop := w2 x.f0 ∧ w2 x.f1 ∧ w2 x.f2
theorem o98 (W : World) : Opens Try.prog W 98 k98 w98 :=
  Opens.iso (f := fun x : S98 => (x.f0, x.f1, x.f2)) (fun p => ⟨p.1, p.2.1, p.2.2⟩) (fun _ => rfl) (Opens.struct Try.underlying98 (by kernel_rfl) (OpensF.more rfl (by kernel_rfl) (o2 W) rfl (OpensF.more rfl (by kernel_rfl) (o2 W) rfl (OpensF.one rfl (by kernel_rfl) (o2 W)))))
def w58 (xs : List (S98)) : Prop := xs.length ≤ 9223372036854775807 ∧ ∀ x ∈ xs, w98 x
theorem o58 (W : World) : Opens Try.prog W 58 (Kd.slice 98 k98) w58 := Opens.slice Try.underlying58 (o98 W) (by kernel_rfl)
/-- What is left to prove. -/
def Owed : Prop := ∀ (l0 : List (S98)), w58 l0 → ∃ k, laws_FnExactGlyphsOfRun.f k l0 = some true
end Go.Proofs.Ytkjnlnkleplfhaa.ArgFnExactGlyphsOfRun
