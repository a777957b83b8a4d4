/- What strings.Trim returns, in the printed form; out of the shelf's contract. -/
import Derived.Test.YthngjfipdfckkaaDoorShTrim
import Derived.Test.YthngjfipdfckkaaDoorWMore
import Derived.Shelf.Strings.SlTrimAscii
namespace Go.Proofs.YthngjfipdfckkaaDoor.Gv
open Go.RowKit Go.Shelf Go.Proofs.YthngjfipdfckkaaDoorW.PrintWords Go.Proofs.YthngjfipdfckkaaDoorW.PrintMore
set_option linter.unusedVariables false
def asciiB (cs : ByteArray) : Bool := cs.data.toList.all (fun b => decide (b.toNat < 128))
def trimF (s cs : ByteArray) : Option ByteArray := if s.size ≤ 9223372036854775807 ∧ cs.size < 4294967281 ∧ asciiB cs = true then some ⟨(Lib.trimS s.data.toList cs.data.toList).toArray⟩ else none
theorem trimF_calls (a0 a1 : ByteArray) (r : ByteArray) (w : World) (h : trimF a0 a1 = some r) :
    Calls Tryd.prog 31 #[.string a0, .string a1] w fun e w' => e = .returned (.string r) ∧ Below w.heap.size w w' := by
  unfold trimF at h
  split at h
  · rename_i hb
    obtain rfl := Option.some.inj h
    exact Any.strings_Trim_laid Tryd.lays160 (by kernel_rfl) a0 a1 w hb.1 hb.2.1 (ascii_of_all hb.2.2)
  · cases h
end Go.Proofs.YthngjfipdfckkaaDoor.Gv
