/- What some Go functions answer, each as a Lean function, and that the machine answers so: written by a program of this session out of the translation. -/
import Derived.Test.YtkjnlnkleplfhaaProg
import Derived.Below
import Derived.Deep.Draws
import Derived.Deep.AppendLies
import Derived.Maps.AppendAt
import Derived.OwnWalk
import Derived.Laws.BytesArg
import Derived.Laws.MakeOwn
import Derived.Laws.OwnMore
import Derived.Deep.OwnRows
import Derived.Tactics
import Derived.Lib.ConvBytes
import Derived.Laws.Slices
import Derived.WalkKit
import Derived.KernelRfl
import Derived.RowKit3
import Derived.Deep.LoopGhost
import Derived.Deep.QuietTactic
import Derived.BigQuiet
import Derived.WideLaws
import Derived.Deep.DeepCutAuto
import Derived.Deep.CutBlock
import Derived.Deep.RegionHeld3
import Derived.Laws.Rows
import Derived.Lib.AppendStr
import Derived.ArgAppend
import Derived.Laws.IdiomCopy
import Derived.OrdersHeld
import Derived.Laws.BitsLemmas
import Derived.RowKit
import Derived.Test.YtkjnlnkleplfhaaRp
import Derived.Test.YtkjnlnkleplfhaaWWords
import Derived.Test.YtkjnlnkleplfhaaWLast
import Derived.Test.YtkjnlnkleplfhaaWTab
import Derived.Test.YtkjnlnkleplfhaaWFour
import Derived.Test.YtkjnlnkleplfhaaWQPut
import Derived.Test.YtkjnlnkleplfhaaWApart
import Derived.Test.YtkjnlnkleplfhaaWArr
import Derived.Test.YtkjnlnkleplfhaaWZeros
import Derived.Test.YtkjnlnkleplfhaaWFoot
import Derived.Test.YtkjnlnkleplfhaaWKept
import Derived.Test.YtkjnlnkleplfhaaWShare
import Derived.Test.YtkjnlnkleplfhaaWN
import Derived.Test.YtkjnlnkleplfhaaWFootNe
import Derived.Test.YtkjnlnkleplfhaaWAt
import Derived.Test.YtkjnlnkleplfhaaWEqStruct
import Derived.Test.YtkjnlnkleplfhaaWRepsOne
import Derived.Test.YtkjnlnkleplfhaaWInv
import Derived.Test.YtkjnlnkleplfhaaWInvWords
import Derived.Test.YtkjnlnkleplfhaaWGuard
import Derived.Test.YtkjnlnkleplfhaaWNEv
import Derived.Test.YtkjnlnkleplfhaaWMore
namespace Go.Proofs.Ytkjnlnkleplfhaa.QFnExactSameLine
open Go.RowKit Go.Proofs.YtkjnlnkleplfhaaW.PrintWords Go.Proofs.YtkjnlnkleplfhaaW.PrintLast Go.Proofs.YtkjnlnkleplfhaaW.PrintMore Go.Proofs.Ytkjnlnkleplfhaa.Rp
attribute [local go_sem] max2_int min2_int max_two min_two max_three min_three max_four min_four   -- for this text's walks alone
set_option linter.unusedVariables false
set_option linter.unusedSimpArgs false



def errW : Option Int → Value
  | none => .nilIface
  | some c => .iface 0 (.int .i64 c)
theorem errW_none : errW none = .nilIface := rfl
theorem errW_some (c : Int) : errW (some c) = .iface 0 (.int .i64 c) := rfl

theorem info9 : (Try.prog.info? 9).map (fun i => (i.zero, i.size, i.bytes)) = some (some (.string ⟨#[]⟩), 1, 16) := by kernel_rfl
-- the values' own types

end Go.Proofs.Ytkjnlnkleplfhaa.QFnExactSameLine
