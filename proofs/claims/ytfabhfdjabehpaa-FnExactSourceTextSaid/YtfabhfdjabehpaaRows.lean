/-
  No cell of these rows narrows 'for every input' (looked for: loops, veiled, ifaces, maps, wideKeys, modest, calm, conditions, laid).
  DERIVED. THE GIVEN ROWS OF THIS SEAT. 4 by the template 'for every input the law returns true; each argument reads behind the call as it read before'; 0 by the template 'total and deterministic' (their statements: YtfabhfdjabehpaaTotals.lean).
  GIVEN WITH THE SEED: the statements are not yours to turn. If you find one false, say at which input.
  Laid BY PROGRAM, IN A SANDBOX (cutbox-rows.mjs): the forced cells as the released guide's own fill.sh prints them over the translation f3fbbb3e0a630cc4… (all of the seat's roots in one cut). By AI agents, Wed Nov 11 2026. No macro, syntax, notation, axiom, sorry.
-/
import Derived.Test.YtfabhfdjabehpaaChecked
import GoSem.Claim
import GoSem.ClaimJoined
import GoSem.ClaimMapViews
import Derived.JoinedTies
import Derived.KernelRfl
namespace Go.Proofs.Ytfabhfdjabehpaa
/- THE CELL 'sum', in the pinned program and in every row, IS THE sha256 OF THE DUMP (.gsa) THAT YtfabhfdjabehpaaProg.lean LOADS. Nothing in Lean hashes anything: it is a label: what it is worth is what the hold of that sum in a sandbox is worth. -/
noncomputable def Try.pinned : Pinned := { name := "ytfabhfdjabehpaa", sum := "f3fbbb3e0a630cc405669e3aba3682113c1eb7d08f1221bf1b83438707324e34", checked := Try.checked }
namespace Rows
def none {H : Type} : Left H := { results := [], args := [] }

/-- 'laws.FnExactBlocksOf': WHATEVER THE INPUT: true; the input reads as it did. -/
def fnExactBlocksOfSpec : ChangeSpec := { name := "fnExactBlocksOf", fn := fun _ => fun
  | [d] => { results := [.lit (.bool true)], args := [d] }
  | _ => none }
def fnExactBlocksOfRow : OpenClaim := { program := "ytfabhfdjabehpaa", sum := "f3fbbb3e0a630cc405669e3aba3682113c1eb7d08f1221bf1b83438707324e34", func := "loop.example/g00883/laws.FnExactBlocksOf", spec := "fnExactBlocksOf", unfollowed := true, recurses := true, apart := false }
def FnExactBlocksOfSaid : Prop := fnExactBlocksOfRow.holds Try.pinned (OpenSpec.ofChange fnExactBlocksOfSpec)

/-- ITS FALSE NEIGHBOUR: 'it returns false'. Refute it at one input. -/
def fnExactBlocksOfWrong : ChangeSpec := { name := "fnExactBlocksOf", fn := fun _ => fun
  | [d] => { results := [.lit (.bool false)], args := [d] }
  | _ => none }
def FnExactBlocksOfWrongFalsely : Prop := fnExactBlocksOfRow.holds Try.pinned (OpenSpec.ofChange fnExactBlocksOfWrong)

/-- 'laws.FnExactLineText': WHATEVER THE INPUT: true; the input reads as it did. -/
def fnExactLineTextSpec : ChangeSpec := { name := "fnExactLineText", fn := fun _ => fun
  | [d] => { results := [.lit (.bool true)], args := [d] }
  | _ => none }
def fnExactLineTextRow : OpenClaim := { program := "ytfabhfdjabehpaa", sum := "f3fbbb3e0a630cc405669e3aba3682113c1eb7d08f1221bf1b83438707324e34", func := "loop.example/g00883/laws.FnExactLineText", spec := "fnExactLineText", inPlace := ["internal/abi.NoEscape", "internal/bytealg.MakeNoZero"], unfollowed := true, recurses := true, apart := false }
def FnExactLineTextSaid : Prop := fnExactLineTextRow.holds Try.pinned (OpenSpec.ofChange fnExactLineTextSpec)

/-- ITS FALSE NEIGHBOUR: 'it returns false'. Refute it at one input. -/
def fnExactLineTextWrong : ChangeSpec := { name := "fnExactLineText", fn := fun _ => fun
  | [d] => { results := [.lit (.bool false)], args := [d] }
  | _ => none }
def FnExactLineTextWrongFalsely : Prop := fnExactLineTextRow.holds Try.pinned (OpenSpec.ofChange fnExactLineTextWrong)

/-- 'laws.FnExactSourceText': WHATEVER THE INPUT: true; the input reads as it did. -/
def fnExactSourceTextSpec : ChangeSpec := { name := "fnExactSourceText", fn := fun _ => fun
  | [d] => { results := [.lit (.bool true)], args := [d] }
  | _ => none }
def fnExactSourceTextRow : OpenClaim := { program := "ytfabhfdjabehpaa", sum := "f3fbbb3e0a630cc405669e3aba3682113c1eb7d08f1221bf1b83438707324e34", func := "loop.example/g00883/laws.FnExactSourceText", spec := "fnExactSourceText", inPlace := ["internal/abi.NoEscape", "internal/bytealg.MakeNoZero"], unfollowed := true, recurses := true, apart := false }
def FnExactSourceTextSaid : Prop := fnExactSourceTextRow.holds Try.pinned (OpenSpec.ofChange fnExactSourceTextSpec)

/-- ITS FALSE NEIGHBOUR: 'it returns false'. Refute it at one input. -/
def fnExactSourceTextWrong : ChangeSpec := { name := "fnExactSourceText", fn := fun _ => fun
  | [d] => { results := [.lit (.bool false)], args := [d] }
  | _ => none }
def FnExactSourceTextWrongFalsely : Prop := fnExactSourceTextRow.holds Try.pinned (OpenSpec.ofChange fnExactSourceTextWrong)

/-- 'laws.FnExactItemsUsed': WHATEVER THE INPUT: true; the input reads as it did. -/
def fnExactItemsUsedSpec : ChangeSpec := { name := "fnExactItemsUsed", fn := fun _ => fun
  | [d] => { results := [.lit (.bool true)], args := [d] }
  | _ => none }
def fnExactItemsUsedRow : OpenClaim := { program := "ytfabhfdjabehpaa", sum := "f3fbbb3e0a630cc405669e3aba3682113c1eb7d08f1221bf1b83438707324e34", func := "loop.example/g00883/laws.FnExactItemsUsed", spec := "fnExactItemsUsed", unfollowed := true, recurses := true, apart := false }
def FnExactItemsUsedSaid : Prop := fnExactItemsUsedRow.holds Try.pinned (OpenSpec.ofChange fnExactItemsUsedSpec)

/-- ITS FALSE NEIGHBOUR: 'it returns false'. Refute it at one input. -/
def fnExactItemsUsedWrong : ChangeSpec := { name := "fnExactItemsUsed", fn := fun _ => fun
  | [d] => { results := [.lit (.bool false)], args := [d] }
  | _ => none }
def FnExactItemsUsedWrongFalsely : Prop := fnExactItemsUsedRow.holds Try.pinned (OpenSpec.ofChange fnExactItemsUsedWrong)

/- THE SECOND FORM. 'bulk': how many values and letters a reading holds, each counted each time it is reached (what is shared counts as often as it is met; a slice's spare places count too). A statement '..UptoSaid' is the law's where the arguments, and the package variables that the reading takes, are together of bulk at most 1048576: NARROWER than '..Said'. Prove '..Said' where nothing that the law and all that it calls make is longer than what came in: it says more and counts as full. Else prove '..UptoSaid'. A law counts once. -/
mutual
def uptoBulk {H : Type} : DataW H → Nat
  | .lit (.string bytes) => bytes.length + 1
  | .lit _ => 1
  | .nil => 1
  | .ptr d => uptoBulk d + 1
  | .slice elems spare => uptoBulkAll elems + uptoBulkAll spare + 1
  | .agg parts => uptoBulkAll parts + 1
  | .iface _ d => uptoBulk d + 1
  | .map entries => uptoBulkEntries entries + 1
  | .held _ => 1
def uptoBulkAll {H : Type} : List (DataW H) → Nat
  | [] => 0
  | d :: r => uptoBulk d + uptoBulkAll r
def uptoBulkEntries {H : Type} : List (Lit × DataW H) → Nat
  | [] => 0
  | x :: r => uptoBulkEntry x + uptoBulkEntries r
def uptoBulkEntry {H : Type} : Lit × DataW H → Nat
  | (.string bytes, d) => bytes.length + uptoBulk d + 1
  | (_, d) => uptoBulk d + 1
 end
def uptoSmall : (H : Type) → List (DataW H) → Bool := fun _ ds => decide (uptoBulkAll ds ≤ 1048576)
def OpenSpec.upto (s : _root_.Go.ChangeSpec) : _root_.Go.OpenSpec := { _root_.Go.OpenSpec.ofChange s with cond := some uptoSmall }

/-- 'laws.FnExactBlocksOf', WHERE WHAT IT READS IS OF BULK AT MOST 1048576: true; the input reads as it did. -/
def fnExactBlocksOfUptoRow : OpenClaim := { program := "ytfabhfdjabehpaa", sum := "f3fbbb3e0a630cc405669e3aba3682113c1eb7d08f1221bf1b83438707324e34", func := "loop.example/g00883/laws.FnExactBlocksOf", spec := "fnExactBlocksOf", unfollowed := true, recurses := true, apart := false, narrowed := true }
def FnExactBlocksOfUptoSaid : Prop := fnExactBlocksOfUptoRow.holds Try.pinned (OpenSpec.upto fnExactBlocksOfSpec)

/-- 'laws.FnExactLineText', WHERE WHAT IT READS IS OF BULK AT MOST 1048576: true; the input reads as it did. -/
def fnExactLineTextUptoRow : OpenClaim := { program := "ytfabhfdjabehpaa", sum := "f3fbbb3e0a630cc405669e3aba3682113c1eb7d08f1221bf1b83438707324e34", func := "loop.example/g00883/laws.FnExactLineText", spec := "fnExactLineText", inPlace := ["internal/abi.NoEscape", "internal/bytealg.MakeNoZero"], unfollowed := true, recurses := true, apart := false, narrowed := true }
def FnExactLineTextUptoSaid : Prop := fnExactLineTextUptoRow.holds Try.pinned (OpenSpec.upto fnExactLineTextSpec)

/-- 'laws.FnExactSourceText', WHERE WHAT IT READS IS OF BULK AT MOST 1048576: true; the input reads as it did. -/
def fnExactSourceTextUptoRow : OpenClaim := { program := "ytfabhfdjabehpaa", sum := "f3fbbb3e0a630cc405669e3aba3682113c1eb7d08f1221bf1b83438707324e34", func := "loop.example/g00883/laws.FnExactSourceText", spec := "fnExactSourceText", inPlace := ["internal/abi.NoEscape", "internal/bytealg.MakeNoZero"], unfollowed := true, recurses := true, apart := false, narrowed := true }
def FnExactSourceTextUptoSaid : Prop := fnExactSourceTextUptoRow.holds Try.pinned (OpenSpec.upto fnExactSourceTextSpec)

/-- 'laws.FnExactItemsUsed', WHERE WHAT IT READS IS OF BULK AT MOST 1048576: true; the input reads as it did. -/
def fnExactItemsUsedUptoRow : OpenClaim := { program := "ytfabhfdjabehpaa", sum := "f3fbbb3e0a630cc405669e3aba3682113c1eb7d08f1221bf1b83438707324e34", func := "loop.example/g00883/laws.FnExactItemsUsed", spec := "fnExactItemsUsed", unfollowed := true, recurses := true, apart := false, narrowed := true }
def FnExactItemsUsedUptoSaid : Prop := fnExactItemsUsedUptoRow.holds Try.pinned (OpenSpec.upto fnExactItemsUsedSpec)

end Rows
end Go.Proofs.Ytfabhfdjabehpaa
