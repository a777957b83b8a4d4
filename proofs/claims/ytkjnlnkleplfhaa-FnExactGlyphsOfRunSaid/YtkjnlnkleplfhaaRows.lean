/-
  No cell of these rows narrows 'for every input' (looked for: loops, veiled, ifaces, maps, wideKeys, modest, calm, conditions, laid).
  DERIVED. THE GIVEN ROWS OF THIS SEAT. 12 by the template 'for every input the law returns true; each argument reads behind the call as it read before'; 0 by the template 'total and deterministic' (their statements: YtkjnlnkleplfhaaTotals.lean).
  GIVEN WITH THE SEED: the statements are not yours to turn. If you find one false, say at which input.
  Laid BY PROGRAM, IN A SANDBOX (cutbox-rows.mjs): the forced cells as the released guide's own fill.sh prints them over the translation 8f45e6820611a849… (all of the seat's roots in one cut). By AI agents, Wed Nov 11 2026. No macro, syntax, notation, axiom, sorry.
-/
import Derived.Test.YtkjnlnkleplfhaaChecked
import GoSem.Claim
import GoSem.ClaimJoined
import GoSem.ClaimMapViews
import Derived.JoinedTies
import Derived.KernelRfl
namespace Go.Proofs.Ytkjnlnkleplfhaa
/- THE CELL 'sum', in the pinned program and in every row, IS THE sha256 OF THE DUMP (.gsa) THAT YtkjnlnkleplfhaaProg.lean LOADS. Nothing in Lean hashes anything: it is a label: what it is worth is what the hold of that sum in a sandbox is worth. -/
noncomputable def Try.pinned : Pinned := { name := "ytkjnlnkleplfhaa", sum := "8f45e6820611a84916983f22db513a092eb4292328731e3bfccdc89c25f38334", checked := Try.checked }
namespace Rows
def none {H : Type} : Left H := { results := [], args := [] }

/-- 'laws.FnExactValidClass': WHATEVER THE INPUT: true; the input reads as it did. -/
def fnExactValidClassSpec : ChangeSpec := { name := "fnExactValidClass", fn := fun _ => fun
  | [d] => { results := [.lit (.bool true)], args := [d] }
  | _ => none }
def fnExactValidClassRow : OpenClaim := { program := "ytkjnlnkleplfhaa", sum := "8f45e6820611a84916983f22db513a092eb4292328731e3bfccdc89c25f38334", func := "loop.example/g00883/laws.FnExactValidClass", spec := "fnExactValidClass", apart := false }
def FnExactValidClassSaid : Prop := fnExactValidClassRow.holds Try.pinned (OpenSpec.ofChange fnExactValidClassSpec)

/-- ITS FALSE NEIGHBOUR: 'it returns false'. Refute it at one input. -/
def fnExactValidClassWrong : ChangeSpec := { name := "fnExactValidClass", fn := fun _ => fun
  | [d] => { results := [.lit (.bool false)], args := [d] }
  | _ => none }
def FnExactValidClassWrongFalsely : Prop := fnExactValidClassRow.holds Try.pinned (OpenSpec.ofChange fnExactValidClassWrong)

/-- 'laws.FnExactIsItem': WHATEVER THE INPUT: true; the input reads as it did. -/
def fnExactIsItemSpec : ChangeSpec := { name := "fnExactIsItem", fn := fun _ => fun
  | [d] => { results := [.lit (.bool true)], args := [d] }
  | _ => none }
def fnExactIsItemRow : OpenClaim := { program := "ytkjnlnkleplfhaa", sum := "8f45e6820611a84916983f22db513a092eb4292328731e3bfccdc89c25f38334", func := "loop.example/g00883/laws.FnExactIsItem", spec := "fnExactIsItem", apart := false }
def FnExactIsItemSaid : Prop := fnExactIsItemRow.holds Try.pinned (OpenSpec.ofChange fnExactIsItemSpec)

/-- ITS FALSE NEIGHBOUR: 'it returns false'. Refute it at one input. -/
def fnExactIsItemWrong : ChangeSpec := { name := "fnExactIsItem", fn := fun _ => fun
  | [d] => { results := [.lit (.bool false)], args := [d] }
  | _ => none }
def FnExactIsItemWrongFalsely : Prop := fnExactIsItemRow.holds Try.pinned (OpenSpec.ofChange fnExactIsItemWrong)

/-- 'laws.FnExactClassIndex': WHATEVER THE INPUT: true; the input reads as it did. -/
def fnExactClassIndexSpec : ChangeSpec := { name := "fnExactClassIndex", fn := fun _ => fun
  | [d1, d2] => { results := [.lit (.bool true)], args := [d1, d2] }
  | _ => none }
def fnExactClassIndexRow : OpenClaim := { program := "ytkjnlnkleplfhaa", sum := "8f45e6820611a84916983f22db513a092eb4292328731e3bfccdc89c25f38334", func := "loop.example/g00883/laws.FnExactClassIndex", spec := "fnExactClassIndex", apart := false }
def FnExactClassIndexSaid : Prop := fnExactClassIndexRow.holds Try.pinned (OpenSpec.ofChange fnExactClassIndexSpec)

/-- ITS FALSE NEIGHBOUR: 'it returns false'. Refute it at one input. -/
def fnExactClassIndexWrong : ChangeSpec := { name := "fnExactClassIndex", fn := fun _ => fun
  | [d1, d2] => { results := [.lit (.bool false)], args := [d1, d2] }
  | _ => none }
def FnExactClassIndexWrongFalsely : Prop := fnExactClassIndexRow.holds Try.pinned (OpenSpec.ofChange fnExactClassIndexWrong)

/-- 'laws.FnExactSameBitmap': WHATEVER THE INPUT: true; the input reads as it did. -/
def fnExactSameBitmapSpec : ChangeSpec := { name := "fnExactSameBitmap", fn := fun _ => fun
  | [d1, d2] => { results := [.lit (.bool true)], args := [d1, d2] }
  | _ => none }
def fnExactSameBitmapRow : OpenClaim := { program := "ytkjnlnkleplfhaa", sum := "8f45e6820611a84916983f22db513a092eb4292328731e3bfccdc89c25f38334", func := "loop.example/g00883/laws.FnExactSameBitmap", spec := "fnExactSameBitmap", apart := false }
def FnExactSameBitmapSaid : Prop := fnExactSameBitmapRow.holds Try.pinned (OpenSpec.ofChange fnExactSameBitmapSpec)

/-- ITS FALSE NEIGHBOUR: 'it returns false'. Refute it at one input. -/
def fnExactSameBitmapWrong : ChangeSpec := { name := "fnExactSameBitmap", fn := fun _ => fun
  | [d1, d2] => { results := [.lit (.bool false)], args := [d1, d2] }
  | _ => none }
def FnExactSameBitmapWrongFalsely : Prop := fnExactSameBitmapRow.holds Try.pinned (OpenSpec.ofChange fnExactSameBitmapWrong)

/-- 'laws.FnExactMeetClass': WHATEVER THE INPUT: true; the input reads as it did. -/
def fnExactMeetClassSpec : ChangeSpec := { name := "fnExactMeetClass", fn := fun _ => fun
  | [d1, d2] => { results := [.lit (.bool true)], args := [d1, d2] }
  | _ => none }
def fnExactMeetClassRow : OpenClaim := { program := "ytkjnlnkleplfhaa", sum := "8f45e6820611a84916983f22db513a092eb4292328731e3bfccdc89c25f38334", func := "loop.example/g00883/laws.FnExactMeetClass", spec := "fnExactMeetClass", apart := false }
def FnExactMeetClassSaid : Prop := fnExactMeetClassRow.holds Try.pinned (OpenSpec.ofChange fnExactMeetClassSpec)

/-- ITS FALSE NEIGHBOUR: 'it returns false'. Refute it at one input. -/
def fnExactMeetClassWrong : ChangeSpec := { name := "fnExactMeetClass", fn := fun _ => fun
  | [d1, d2] => { results := [.lit (.bool false)], args := [d1, d2] }
  | _ => none }
def FnExactMeetClassWrongFalsely : Prop := fnExactMeetClassRow.holds Try.pinned (OpenSpec.ofChange fnExactMeetClassWrong)

/-- 'laws.FnExactMinusClass': WHATEVER THE INPUT: true; the input reads as it did. -/
def fnExactMinusClassSpec : ChangeSpec := { name := "fnExactMinusClass", fn := fun _ => fun
  | [d1, d2] => { results := [.lit (.bool true)], args := [d1, d2] }
  | _ => none }
def fnExactMinusClassRow : OpenClaim := { program := "ytkjnlnkleplfhaa", sum := "8f45e6820611a84916983f22db513a092eb4292328731e3bfccdc89c25f38334", func := "loop.example/g00883/laws.FnExactMinusClass", spec := "fnExactMinusClass", apart := false }
def FnExactMinusClassSaid : Prop := fnExactMinusClassRow.holds Try.pinned (OpenSpec.ofChange fnExactMinusClassSpec)

/-- ITS FALSE NEIGHBOUR: 'it returns false'. Refute it at one input. -/
def fnExactMinusClassWrong : ChangeSpec := { name := "fnExactMinusClass", fn := fun _ => fun
  | [d1, d2] => { results := [.lit (.bool false)], args := [d1, d2] }
  | _ => none }
def FnExactMinusClassWrongFalsely : Prop := fnExactMinusClassRow.holds Try.pinned (OpenSpec.ofChange fnExactMinusClassWrong)

/-- 'laws.FnExactClassOfRanges': WHATEVER THE INPUT: true; the input reads as it did. -/
def fnExactClassOfRangesSpec : ChangeSpec := { name := "fnExactClassOfRanges", fn := fun _ => fun
  | [d] => { results := [.lit (.bool true)], args := [d] }
  | _ => none }
def fnExactClassOfRangesRow : OpenClaim := { program := "ytkjnlnkleplfhaa", sum := "8f45e6820611a84916983f22db513a092eb4292328731e3bfccdc89c25f38334", func := "loop.example/g00883/laws.FnExactClassOfRanges", spec := "fnExactClassOfRanges", apart := false }
def FnExactClassOfRangesSaid : Prop := fnExactClassOfRangesRow.holds Try.pinned (OpenSpec.ofChange fnExactClassOfRangesSpec)

/-- ITS FALSE NEIGHBOUR: 'it returns false'. Refute it at one input. -/
def fnExactClassOfRangesWrong : ChangeSpec := { name := "fnExactClassOfRanges", fn := fun _ => fun
  | [d] => { results := [.lit (.bool false)], args := [d] }
  | _ => none }
def FnExactClassOfRangesWrongFalsely : Prop := fnExactClassOfRangesRow.holds Try.pinned (OpenSpec.ofChange fnExactClassOfRangesWrong)

/-- 'laws.FnExactSameLine': WHATEVER THE INPUT: true; the input reads as it did. -/
def fnExactSameLineSpec : ChangeSpec := { name := "fnExactSameLine", fn := fun _ => fun
  | [d1, d2] => { results := [.lit (.bool true)], args := [d1, d2] }
  | _ => none }
def fnExactSameLineRow : OpenClaim := { program := "ytkjnlnkleplfhaa", sum := "8f45e6820611a84916983f22db513a092eb4292328731e3bfccdc89c25f38334", func := "loop.example/g00883/laws.FnExactSameLine", spec := "fnExactSameLine", apart := false }
def FnExactSameLineSaid : Prop := fnExactSameLineRow.holds Try.pinned (OpenSpec.ofChange fnExactSameLineSpec)

/-- ITS FALSE NEIGHBOUR: 'it returns false'. Refute it at one input. -/
def fnExactSameLineWrong : ChangeSpec := { name := "fnExactSameLine", fn := fun _ => fun
  | [d1, d2] => { results := [.lit (.bool false)], args := [d1, d2] }
  | _ => none }
def FnExactSameLineWrongFalsely : Prop := fnExactSameLineRow.holds Try.pinned (OpenSpec.ofChange fnExactSameLineWrong)

/-- 'laws.FnExactRangesOf': WHATEVER THE INPUT: true; the input reads as it did. -/
def fnExactRangesOfSpec : ChangeSpec := { name := "fnExactRangesOf", fn := fun _ => fun
  | [d] => { results := [.lit (.bool true)], args := [d] }
  | _ => none }
def fnExactRangesOfRow : OpenClaim := { program := "ytkjnlnkleplfhaa", sum := "8f45e6820611a84916983f22db513a092eb4292328731e3bfccdc89c25f38334", func := "loop.example/g00883/laws.FnExactRangesOf", spec := "fnExactRangesOf", apart := false }
def FnExactRangesOfSaid : Prop := fnExactRangesOfRow.holds Try.pinned (OpenSpec.ofChange fnExactRangesOfSpec)

/-- ITS FALSE NEIGHBOUR: 'it returns false'. Refute it at one input. -/
def fnExactRangesOfWrong : ChangeSpec := { name := "fnExactRangesOf", fn := fun _ => fun
  | [d] => { results := [.lit (.bool false)], args := [d] }
  | _ => none }
def FnExactRangesOfWrongFalsely : Prop := fnExactRangesOfRow.holds Try.pinned (OpenSpec.ofChange fnExactRangesOfWrong)

/-- 'laws.FnExactGlyphsOfRun': WHATEVER THE INPUT: true; the input reads as it did. -/
def fnExactGlyphsOfRunSpec : ChangeSpec := { name := "fnExactGlyphsOfRun", fn := fun _ => fun
  | [d] => { results := [.lit (.bool true)], args := [d] }
  | _ => none }
def fnExactGlyphsOfRunRow : OpenClaim := { program := "ytkjnlnkleplfhaa", sum := "8f45e6820611a84916983f22db513a092eb4292328731e3bfccdc89c25f38334", func := "loop.example/g00883/laws.FnExactGlyphsOfRun", spec := "fnExactGlyphsOfRun", apart := false }
def FnExactGlyphsOfRunSaid : Prop := fnExactGlyphsOfRunRow.holds Try.pinned (OpenSpec.ofChange fnExactGlyphsOfRunSpec)

/-- ITS FALSE NEIGHBOUR: 'it returns false'. Refute it at one input. -/
def fnExactGlyphsOfRunWrong : ChangeSpec := { name := "fnExactGlyphsOfRun", fn := fun _ => fun
  | [d] => { results := [.lit (.bool false)], args := [d] }
  | _ => none }
def FnExactGlyphsOfRunWrongFalsely : Prop := fnExactGlyphsOfRunRow.holds Try.pinned (OpenSpec.ofChange fnExactGlyphsOfRunWrong)

/-- 'laws.FnExactValidRule': WHATEVER THE INPUT: true; the input reads as it did. -/
def fnExactValidRuleSpec : ChangeSpec := { name := "fnExactValidRule", fn := fun _ => fun
  | [d] => { results := [.lit (.bool true)], args := [d] }
  | _ => none }
def fnExactValidRuleRow : OpenClaim := { program := "ytkjnlnkleplfhaa", sum := "8f45e6820611a84916983f22db513a092eb4292328731e3bfccdc89c25f38334", func := "loop.example/g00883/laws.FnExactValidRule", spec := "fnExactValidRule", unfollowed := true, recurses := true, apart := false }
def FnExactValidRuleSaid : Prop := fnExactValidRuleRow.holds Try.pinned (OpenSpec.ofChange fnExactValidRuleSpec)

/-- ITS FALSE NEIGHBOUR: 'it returns false'. Refute it at one input. -/
def fnExactValidRuleWrong : ChangeSpec := { name := "fnExactValidRule", fn := fun _ => fun
  | [d] => { results := [.lit (.bool false)], args := [d] }
  | _ => none }
def FnExactValidRuleWrongFalsely : Prop := fnExactValidRuleRow.holds Try.pinned (OpenSpec.ofChange fnExactValidRuleWrong)

/-- 'laws.FnExactEncodeClass': WHATEVER THE INPUT: true; the input reads as it did. -/
def fnExactEncodeClassSpec : ChangeSpec := { name := "fnExactEncodeClass", fn := fun _ => fun
  | [d] => { results := [.lit (.bool true)], args := [d] }
  | _ => none }
def fnExactEncodeClassRow : OpenClaim := { program := "ytkjnlnkleplfhaa", sum := "8f45e6820611a84916983f22db513a092eb4292328731e3bfccdc89c25f38334", func := "loop.example/g00883/laws.FnExactEncodeClass", spec := "fnExactEncodeClass", inPlace := ["internal/abi.NoEscape"], apart := false }
def FnExactEncodeClassSaid : Prop := fnExactEncodeClassRow.holds Try.pinned (OpenSpec.ofChange fnExactEncodeClassSpec)

/-- ITS FALSE NEIGHBOUR: 'it returns false'. Refute it at one input. -/
def fnExactEncodeClassWrong : ChangeSpec := { name := "fnExactEncodeClass", fn := fun _ => fun
  | [d] => { results := [.lit (.bool false)], args := [d] }
  | _ => none }
def FnExactEncodeClassWrongFalsely : Prop := fnExactEncodeClassRow.holds Try.pinned (OpenSpec.ofChange fnExactEncodeClassWrong)

/- THE SECOND FORM. 'bulk': how many values and letters a reading holds, each counted each time it is reached (what is shared counts as often as it is met; a slice's spare places count too). A statement '..UptoSaid' is the law's where the arguments, and the package variables that the reading takes, are together of bulk at most 1048576: NARROWER than '..Said'. Prove '..Said' where nothing that the law and all that it calls make is longer than what came in: it says more and counts as full. Else prove '..UptoSaid'. A law counts once. -/
mutual
def uptoBulk {H : Type} : DataW H → Nat
  | .lit (.string bytes) => bytes.length + 1
  | .lit _ => 1
  | .nil => 1
  | .ptr d => uptoBulk d + 1
  | .slice elems spare => uptoBulkAll elems + uptoBulkAll spare + 1
  | .agg parts => uptoBulkAll parts + 1
  | .iface _ d => uptoBulk d + 1
  | .map entries => uptoBulkEntries entries + 1
  | .held _ => 1
def uptoBulkAll {H : Type} : List (DataW H) → Nat
  | [] => 0
  | d :: r => uptoBulk d + uptoBulkAll r
def uptoBulkEntries {H : Type} : List (Lit × DataW H) → Nat
  | [] => 0
  | x :: r => uptoBulkEntry x + uptoBulkEntries r
def uptoBulkEntry {H : Type} : Lit × DataW H → Nat
  | (.string bytes, d) => bytes.length + uptoBulk d + 1
  | (_, d) => uptoBulk d + 1
 end
def uptoSmall : (H : Type) → List (DataW H) → Bool := fun _ ds => decide (uptoBulkAll ds ≤ 1048576)
def OpenSpec.upto (s : _root_.Go.ChangeSpec) : _root_.Go.OpenSpec := { _root_.Go.OpenSpec.ofChange s with cond := some uptoSmall }

/-- 'laws.FnExactValidClass', WHERE WHAT IT READS IS OF BULK AT MOST 1048576: true; the input reads as it did. -/
def fnExactValidClassUptoRow : OpenClaim := { program := "ytkjnlnkleplfhaa", sum := "8f45e6820611a84916983f22db513a092eb4292328731e3bfccdc89c25f38334", func := "loop.example/g00883/laws.FnExactValidClass", spec := "fnExactValidClass", apart := false, narrowed := true }
def FnExactValidClassUptoSaid : Prop := fnExactValidClassUptoRow.holds Try.pinned (OpenSpec.upto fnExactValidClassSpec)

/-- 'laws.FnExactIsItem', WHERE WHAT IT READS IS OF BULK AT MOST 1048576: true; the input reads as it did. -/
def fnExactIsItemUptoRow : OpenClaim := { program := "ytkjnlnkleplfhaa", sum := "8f45e6820611a84916983f22db513a092eb4292328731e3bfccdc89c25f38334", func := "loop.example/g00883/laws.FnExactIsItem", spec := "fnExactIsItem", apart := false, narrowed := true }
def FnExactIsItemUptoSaid : Prop := fnExactIsItemUptoRow.holds Try.pinned (OpenSpec.upto fnExactIsItemSpec)

/-- 'laws.FnExactClassIndex', WHERE WHAT IT READS IS OF BULK AT MOST 1048576: true; the input reads as it did. -/
def fnExactClassIndexUptoRow : OpenClaim := { program := "ytkjnlnkleplfhaa", sum := "8f45e6820611a84916983f22db513a092eb4292328731e3bfccdc89c25f38334", func := "loop.example/g00883/laws.FnExactClassIndex", spec := "fnExactClassIndex", apart := false, narrowed := true }
def FnExactClassIndexUptoSaid : Prop := fnExactClassIndexUptoRow.holds Try.pinned (OpenSpec.upto fnExactClassIndexSpec)

/-- 'laws.FnExactSameBitmap', WHERE WHAT IT READS IS OF BULK AT MOST 1048576: true; the input reads as it did. -/
def fnExactSameBitmapUptoRow : OpenClaim := { program := "ytkjnlnkleplfhaa", sum := "8f45e6820611a84916983f22db513a092eb4292328731e3bfccdc89c25f38334", func := "loop.example/g00883/laws.FnExactSameBitmap", spec := "fnExactSameBitmap", apart := false, narrowed := true }
def FnExactSameBitmapUptoSaid : Prop := fnExactSameBitmapUptoRow.holds Try.pinned (OpenSpec.upto fnExactSameBitmapSpec)

/-- 'laws.FnExactMeetClass', WHERE WHAT IT READS IS OF BULK AT MOST 1048576: true; the input reads as it did. -/
def fnExactMeetClassUptoRow : OpenClaim := { program := "ytkjnlnkleplfhaa", sum := "8f45e6820611a84916983f22db513a092eb4292328731e3bfccdc89c25f38334", func := "loop.example/g00883/laws.FnExactMeetClass", spec := "fnExactMeetClass", apart := false, narrowed := true }
def FnExactMeetClassUptoSaid : Prop := fnExactMeetClassUptoRow.holds Try.pinned (OpenSpec.upto fnExactMeetClassSpec)

/-- 'laws.FnExactMinusClass', WHERE WHAT IT READS IS OF BULK AT MOST 1048576: true; the input reads as it did. -/
def fnExactMinusClassUptoRow : OpenClaim := { program := "ytkjnlnkleplfhaa", sum := "8f45e6820611a84916983f22db513a092eb4292328731e3bfccdc89c25f38334", func := "loop.example/g00883/laws.FnExactMinusClass", spec := "fnExactMinusClass", apart := false, narrowed := true }
def FnExactMinusClassUptoSaid : Prop := fnExactMinusClassUptoRow.holds Try.pinned (OpenSpec.upto fnExactMinusClassSpec)

/-- 'laws.FnExactClassOfRanges', WHERE WHAT IT READS IS OF BULK AT MOST 1048576: true; the input reads as it did. -/
def fnExactClassOfRangesUptoRow : OpenClaim := { program := "ytkjnlnkleplfhaa", sum := "8f45e6820611a84916983f22db513a092eb4292328731e3bfccdc89c25f38334", func := "loop.example/g00883/laws.FnExactClassOfRanges", spec := "fnExactClassOfRanges", apart := false, narrowed := true }
def FnExactClassOfRangesUptoSaid : Prop := fnExactClassOfRangesUptoRow.holds Try.pinned (OpenSpec.upto fnExactClassOfRangesSpec)

/-- 'laws.FnExactSameLine', WHERE WHAT IT READS IS OF BULK AT MOST 1048576: true; the input reads as it did. -/
def fnExactSameLineUptoRow : OpenClaim := { program := "ytkjnlnkleplfhaa", sum := "8f45e6820611a84916983f22db513a092eb4292328731e3bfccdc89c25f38334", func := "loop.example/g00883/laws.FnExactSameLine", spec := "fnExactSameLine", apart := false, narrowed := true }
def FnExactSameLineUptoSaid : Prop := fnExactSameLineUptoRow.holds Try.pinned (OpenSpec.upto fnExactSameLineSpec)

/-- 'laws.FnExactRangesOf', WHERE WHAT IT READS IS OF BULK AT MOST 1048576: true; the input reads as it did. -/
def fnExactRangesOfUptoRow : OpenClaim := { program := "ytkjnlnkleplfhaa", sum := "8f45e6820611a84916983f22db513a092eb4292328731e3bfccdc89c25f38334", func := "loop.example/g00883/laws.FnExactRangesOf", spec := "fnExactRangesOf", apart := false, narrowed := true }
def FnExactRangesOfUptoSaid : Prop := fnExactRangesOfUptoRow.holds Try.pinned (OpenSpec.upto fnExactRangesOfSpec)

/-- 'laws.FnExactGlyphsOfRun', WHERE WHAT IT READS IS OF BULK AT MOST 1048576: true; the input reads as it did. -/
def fnExactGlyphsOfRunUptoRow : OpenClaim := { program := "ytkjnlnkleplfhaa", sum := "8f45e6820611a84916983f22db513a092eb4292328731e3bfccdc89c25f38334", func := "loop.example/g00883/laws.FnExactGlyphsOfRun", spec := "fnExactGlyphsOfRun", apart := false, narrowed := true }
def FnExactGlyphsOfRunUptoSaid : Prop := fnExactGlyphsOfRunUptoRow.holds Try.pinned (OpenSpec.upto fnExactGlyphsOfRunSpec)

/-- 'laws.FnExactValidRule', WHERE WHAT IT READS IS OF BULK AT MOST 1048576: true; the input reads as it did. -/
def fnExactValidRuleUptoRow : OpenClaim := { program := "ytkjnlnkleplfhaa", sum := "8f45e6820611a84916983f22db513a092eb4292328731e3bfccdc89c25f38334", func := "loop.example/g00883/laws.FnExactValidRule", spec := "fnExactValidRule", unfollowed := true, recurses := true, apart := false, narrowed := true }
def FnExactValidRuleUptoSaid : Prop := fnExactValidRuleUptoRow.holds Try.pinned (OpenSpec.upto fnExactValidRuleSpec)

/-- 'laws.FnExactEncodeClass', WHERE WHAT IT READS IS OF BULK AT MOST 1048576: true; the input reads as it did. -/
def fnExactEncodeClassUptoRow : OpenClaim := { program := "ytkjnlnkleplfhaa", sum := "8f45e6820611a84916983f22db513a092eb4292328731e3bfccdc89c25f38334", func := "loop.example/g00883/laws.FnExactEncodeClass", spec := "fnExactEncodeClass", inPlace := ["internal/abi.NoEscape"], apart := false, narrowed := true }
def FnExactEncodeClassUptoSaid : Prop := fnExactEncodeClassUptoRow.holds Try.pinned (OpenSpec.upto fnExactEncodeClassSpec)

end Rows
end Go.Proofs.Ytkjnlnkleplfhaa
