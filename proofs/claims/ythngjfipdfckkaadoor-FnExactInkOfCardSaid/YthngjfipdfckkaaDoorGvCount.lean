/- What strings.Count returns at a text of one byte, in the printed form; out of the shelf's contract. -/
import Derived.Test.YthngjfipdfckkaaDoorShCount
import Derived.Test.YthngjfipdfckkaaDoorWMore
namespace Go.Proofs.YthngjfipdfckkaaDoor.Gv
open Go.RowKit Go.Shelf Go.Proofs.YthngjfipdfckkaaDoorW.PrintWords Go.Proofs.YthngjfipdfckkaaDoorW.PrintMore
set_option linter.unusedVariables false
def countF (s sub : ByteArray) : Option Int := match sub.data.toList with
  | [c] => some ((s.data.toList.count c : Nat) : Int)
  | _ => none
theorem countF_calls (a0 a1 : ByteArray) (r : Int) (w : World) (h : countF a0 a1 = some r) :
    Calls Tryd.prog 41 #[.string a0, .string a1] w fun e w' => e = .returned (.int .i64 r) ∧ Drawn0 w w' := by
  unfold countF at h
  split at h
  · rename_i c hc
    obtain rfl := Option.some.inj h
    obtain rfl : a1 = ⟨#[c]⟩ := by
      cases a1 with
      | mk d => simp only at hc; congr 1; exact Array.toList_inj.1 hc
    refine (Tryd.strings_Count_one a0 c w).mono ?_
    rintro e w' ⟨rfl, rfl⟩
    exact ⟨rfl, Drawn0.refl _⟩
  · cases h
end Go.Proofs.YthngjfipdfckkaaDoor.Gv
