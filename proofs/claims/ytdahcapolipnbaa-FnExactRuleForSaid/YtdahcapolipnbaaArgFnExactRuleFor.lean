/- What the arguments of FnExactRuleFor hold where the call begins, and the plain statement that is left. -/
import Derived.Test.YtdahcapolipnbaaQFnExactRuleForx15
import Derived.Test.YtdahcapolipnbaaOpen
import Derived.KernelRfl
namespace Go.Proofs.Ytdahcapolipnbaa.ArgFnExactRuleFor
open Go.RowKit Go.Proofs.Ytdahcapolipnbaa.QFnExactRuleFor Go.Proofs.YtdahcapolipnbaaW.PrintWords Go.Proofs.YtdahcapolipnbaaW.PrintLast Go.Proofs.Ytdahcapolipnbaa.Open
set_option linter.unusedVariables false
def w9 (s : ByteArray) : Prop := s.size ≤ 9223372036854775807
theorem o9 (W : World) : Opens Try.prog W 9 Kd.string w9 := Opens.string Try.underlying9
def w2 (n : Int) : Prop := (Lit.int .i64 n).wf = true
theorem o2 (W : World) : Opens Try.prog W 2 (Kd.int .i64) w2 := Opens.int Try.underlying2
def w22 (xs : List (Int)) : Prop := xs.length ≤ 9223372036854775807 ∧ ∀ x ∈ xs, w2 x
theorem o22 (W : World) : Opens Try.prog W 22 (Kd.slice 2 (Kd.int .i64)) w22 := Opens.slice Try.underlying22 (o2 W) (by kernel_rfl)
def w33 (xs : List (List (Int))) : Prop := xs.length ≤ 9223372036854775807 ∧ ∀ x ∈ xs, w22 x
theorem o33 (W : World) : Opens Try.prog W 33 (Kd.slice 22 (Kd.slice 2 (Kd.int .i64))) w33 := Opens.slice Try.underlying33 (o22 W) (by kernel_rfl)
def w35 (x : S35) : Prop := w33 x.f0 ∧ w33 x.f1 ∧ w33 x.f2 ∧ w22 x.f3
theorem o35 (W : World) : Opens Try.prog W 35 k35 w35 :=
  Opens.iso (f := fun x : S35 => (x.f0, x.f1, x.f2, x.f3)) (fun p => ⟨p.1, p.2.1, p.2.2.1, p.2.2.2⟩) (fun _ => rfl) (Opens.struct Try.underlying35 (by kernel_rfl) (OpensF.more rfl (by kernel_rfl) (o33 W) rfl (OpensF.more rfl (by kernel_rfl) (o33 W) rfl (OpensF.more rfl (by kernel_rfl) (o33 W) rfl (OpensF.one rfl (by kernel_rfl) (o22 W))))))
def w53 (xs : List (S35)) : Prop := xs.length ≤ 9223372036854775807 ∧ ∀ x ∈ xs, w35 x
theorem o53 (W : World) : Opens Try.prog W 53 (Kd.slice 35 k35) w53 := Opens.slice Try.underlying53 (o35 W) (by kernel_rfl)
def w109 (x : S109) : Prop := w2 x.f0 ∧ w2 x.f1 ∧ w2 x.f2
theorem o109 (W : World) : Opens Try.prog W 109 k109 w109 :=
  Opens.iso (f := fun x : S109 => (x.f0, x.f1, x.f2)) (fun p => ⟨p.1, p.2.1, p.2.2⟩) (fun _ => rfl) (Opens.struct Try.underlying109 (by kernel_rfl) (OpensF.more rfl (by kernel_rfl) (o2 W) rfl (OpensF.more rfl (by kernel_rfl) (o2 W) rfl (OpensF.one rfl (by kernel_rfl) (o2 W)))))
def w42 (xs : List (S109)) : Prop := xs.length ≤ 9223372036854775807 ∧ ∀ x ∈ xs, w109 x
theorem o42 (W : World) : Opens Try.prog W 42 (Kd.slice 109 k109) w42 := Opens.slice Try.underlying42 (o109 W) (by kernel_rfl)
/-- What is left to prove. -/
def Owed : Prop := ∀ (a0_0 : ByteArray) (l0_1 : List (S35)) (l1 : List (S109)) (a2 : Int), w9 a0_0 → w53 l0_1 → w42 l1 → w2 a2 → ∃ k, laws_FnExactRuleFor.f k a0_0 l0_1 l1 a2 = some true
end Go.Proofs.Ytdahcapolipnbaa.ArgFnExactRuleFor
