/- What the arguments of FnExactClassOfRanges hold where the call begins, and the plain statement that is left. -/
import Derived.Test.YtkjnlnkleplfhaaQFnExactClassOfRangesx5
import Derived.Test.YtkjnlnkleplfhaaOpen
import Derived.KernelRfl
namespace Go.Proofs.Ytkjnlnkleplfhaa.ArgFnExactClassOfRanges
open Go.RowKit Go.Proofs.Ytkjnlnkleplfhaa.QFnExactClassOfRanges Go.Proofs.YtkjnlnkleplfhaaW.PrintWords Go.Proofs.YtkjnlnkleplfhaaW.PrintLast Go.Proofs.Ytkjnlnkleplfhaa.Open
set_option linter.unusedVariables false
def w2 (n : Int) : Prop := (Lit.int .i64 n).wf = true
theorem o2 (W : World) : Opens Try.prog W 2 (Kd.int .i64) w2 := Opens.int Try.underlying2
def w91 (x : S91) : Prop := w2 x.f0 ∧ w2 x.f1
theorem o91 (W : World) : Opens Try.prog W 91 k91 w91 :=
  Opens.iso (f := fun x : S91 => (x.f0, x.f1)) (fun p => ⟨p.1, p.2⟩) (fun _ => rfl) (Opens.struct Try.underlying91 (by kernel_rfl) (OpensF.more rfl (by kernel_rfl) (o2 W) rfl (OpensF.one rfl (by kernel_rfl) (o2 W))))
def w41 (xs : List (S91)) : Prop := xs.length ≤ 9223372036854775807 ∧ ∀ x ∈ xs, w91 x
theorem o41 (W : World) : Opens Try.prog W 41 (Kd.slice 91 k91) w41 := Opens.slice Try.underlying41 (o91 W) (by kernel_rfl)
/-- What is left to prove. -/
def Owed : Prop := ∀ (l0 : List (S91)), w41 l0 → ∃ k, laws_FnExactClassOfRanges.f k l0 = some true
end Go.Proofs.Ytkjnlnkleplfhaa.ArgFnExactClassOfRanges
