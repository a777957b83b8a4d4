/- What the arguments of FnExactSourceText hold where the call begins, and the plain statement that is left. -/
import Derived.Test.YtfabhfdjabehpaaQFnExactSourceTextx12
import Derived.Test.YtfabhfdjabehpaaOpen
import Derived.KernelRfl
namespace Go.Proofs.Ytfabhfdjabehpaa.ArgFnExactSourceText
open Go.RowKit Go.Proofs.Ytfabhfdjabehpaa.QFnExactSourceText Go.Proofs.YtfabhfdjabehpaaW.PrintWords Go.Proofs.YtfabhfdjabehpaaW.PrintLast Go.Proofs.Ytfabhfdjabehpaa.Open
set_option linter.unusedVariables false
def w2 (n : Int) : Prop := (Lit.int .i64 n).wf = true
theorem o2 (W : World) : Opens Try.prog W 2 (Kd.int .i64) w2 := Opens.int Try.underlying2
def w9 (s : ByteArray) : Prop := s.size ≤ 9223372036854775807
theorem o9 (W : World) : Opens Try.prog W 9 Kd.string w9 := Opens.string Try.underlying9
def w34 (xs : List (ByteArray)) : Prop := xs.length ≤ 9223372036854775807 ∧ ∀ x ∈ xs, w9 x
theorem o34 (W : World) : Opens Try.prog W 34 (Kd.slice 9 Kd.string) w34 := Opens.slice Try.underlying34 (o9 W) (by kernel_rfl)
def w36 (x : S36) : Prop := w2 x.f0 ∧ w9 x.f1 ∧ w34 x.f2 ∧ w34 x.f3 ∧ w34 x.f4 ∧ w34 x.f5 ∧ w2 x.f6
theorem o36 (W : World) : Opens Try.prog W 36 k36 w36 :=
  Opens.iso (f := fun x : S36 => (x.f0, x.f1, x.f2, x.f3, x.f4, x.f5, x.f6)) (fun p => ⟨p.1, p.2.1, p.2.2.1, p.2.2.2.1, p.2.2.2.2.1, p.2.2.2.2.2.1, p.2.2.2.2.2.2⟩) (fun _ => rfl) (Opens.struct Try.underlying36 (by kernel_rfl) (OpensF.more rfl (by kernel_rfl) (o2 W) rfl (OpensF.more rfl (by kernel_rfl) (o9 W) rfl (OpensF.more rfl (by kernel_rfl) (o34 W) rfl (OpensF.more rfl (by kernel_rfl) (o34 W) rfl (OpensF.more rfl (by kernel_rfl) (o34 W) rfl (OpensF.more rfl (by kernel_rfl) (o34 W) rfl (OpensF.one rfl (by kernel_rfl) (o2 W)))))))))
def w22 (xs : List (S36)) : Prop := xs.length ≤ 9223372036854775807 ∧ ∀ x ∈ xs, w36 x
theorem o22 (W : World) : Opens Try.prog W 22 (Kd.slice 36 k36) w22 := Opens.slice Try.underlying22 (o36 W) (by kernel_rfl)
/-- What is left to prove. -/
def Owed : Prop := ∀ (l0 : List (S36)), w22 l0 → ∃ k, laws_FnExactSourceText.f k l0 = some true
end Go.Proofs.Ytfabhfdjabehpaa.ArgFnExactSourceText
