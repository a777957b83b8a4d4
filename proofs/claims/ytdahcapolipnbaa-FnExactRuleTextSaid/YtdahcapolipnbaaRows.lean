/-
  No cell of these rows narrows 'for every input' (looked for: loops, veiled, ifaces, maps, wideKeys, modest, calm, conditions, laid).
  DERIVED. THE GIVEN ROWS OF THIS SEAT. 9 by the template 'for every input the law returns true; each argument reads behind the call as it read before'; 0 by the template 'total and deterministic' (their statements: YtdahcapolipnbaaTotals.lean).
  GIVEN WITH THE SEED: the statements are not yours to turn. If you find one false, say at which input.
  Laid BY PROGRAM, IN A SANDBOX (cutbox-rows.mjs): the forced cells as the released guide's own fill.sh prints them over the translation 7e86191fc42e8259… (all of the seat's roots in one cut). By AI agents, Wed Nov 11 2026. No macro, syntax, notation, axiom, sorry.
-/
import Derived.Test.YtdahcapolipnbaaChecked
import GoSem.Claim
import GoSem.ClaimJoined
import GoSem.ClaimMapViews
import Derived.JoinedTies
import Derived.KernelRfl
namespace Go.Proofs.Ytdahcapolipnbaa
/- THE CELL 'sum', in the pinned program and in every row, IS THE sha256 OF THE DUMP (.gsa) THAT YtdahcapolipnbaaProg.lean LOADS. Nothing in Lean hashes anything: it is a label: what it is worth is what the hold of that sum in a sandbox is worth. -/
noncomputable def Try.pinned : Pinned := { name := "ytdahcapolipnbaa", sum := "7e86191fc42e825948e52061a83dcb69cc2691cca782fbdf30de0cd782074c2f", checked := Try.checked }
namespace Rows
def none {H : Type} : Left H := { results := [], args := [] }

/-- 'laws.FnExactClassText': WHATEVER THE INPUT: true; the input reads as it did. -/
def fnExactClassTextSpec : ChangeSpec := { name := "fnExactClassText", fn := fun _ => fun
  | [d] => { results := [.lit (.bool true)], args := [d] }
  | _ => none }
def fnExactClassTextRow : OpenClaim := { program := "ytdahcapolipnbaa", sum := "7e86191fc42e825948e52061a83dcb69cc2691cca782fbdf30de0cd782074c2f", func := "loop.example/g00883/laws.FnExactClassText", spec := "fnExactClassText", inPlace := ["internal/abi.NoEscape", "internal/bytealg.MakeNoZero"], apart := false }
def FnExactClassTextSaid : Prop := fnExactClassTextRow.holds Try.pinned (OpenSpec.ofChange fnExactClassTextSpec)

/-- ITS FALSE NEIGHBOUR: 'it returns false'. Refute it at one input. -/
def fnExactClassTextWrong : ChangeSpec := { name := "fnExactClassText", fn := fun _ => fun
  | [d] => { results := [.lit (.bool false)], args := [d] }
  | _ => none }
def FnExactClassTextWrongFalsely : Prop := fnExactClassTextRow.holds Try.pinned (OpenSpec.ofChange fnExactClassTextWrong)

/-- 'laws.FnExactDecodeClass': WHATEVER THE INPUT: true; the input reads as it did. -/
def fnExactDecodeClassSpec : ChangeSpec := { name := "fnExactDecodeClass", fn := fun _ => fun
  | [d1, d2] => { results := [.lit (.bool true)], args := [d1, d2] }
  | _ => none }
def fnExactDecodeClassRow : OpenClaim := { program := "ytdahcapolipnbaa", sum := "7e86191fc42e825948e52061a83dcb69cc2691cca782fbdf30de0cd782074c2f", func := "loop.example/g00883/laws.FnExactDecodeClass", spec := "fnExactDecodeClass", inPlace := ["internal/abi.NoEscape"], apart := false }
def FnExactDecodeClassSaid : Prop := fnExactDecodeClassRow.holds Try.pinned (OpenSpec.ofChange fnExactDecodeClassSpec)

/-- ITS FALSE NEIGHBOUR: 'it returns false'. Refute it at one input. -/
def fnExactDecodeClassWrong : ChangeSpec := { name := "fnExactDecodeClass", fn := fun _ => fun
  | [d1, d2] => { results := [.lit (.bool false)], args := [d1, d2] }
  | _ => none }
def FnExactDecodeClassWrongFalsely : Prop := fnExactDecodeClassRow.holds Try.pinned (OpenSpec.ofChange fnExactDecodeClassWrong)

/-- 'laws.FnExactUnionClass': WHATEVER THE INPUT: true; the input reads as it did. -/
def fnExactUnionClassSpec : ChangeSpec := { name := "fnExactUnionClass", fn := fun _ => fun
  | [d1, d2] => { results := [.lit (.bool true)], args := [d1, d2] }
  | _ => none }
def fnExactUnionClassRow : OpenClaim := { program := "ytdahcapolipnbaa", sum := "7e86191fc42e825948e52061a83dcb69cc2691cca782fbdf30de0cd782074c2f", func := "loop.example/g00883/laws.FnExactUnionClass", spec := "fnExactUnionClass", recurses := true, apart := false }
def FnExactUnionClassSaid : Prop := fnExactUnionClassRow.holds Try.pinned (OpenSpec.ofChange fnExactUnionClassSpec)

/-- ITS FALSE NEIGHBOUR: 'it returns false'. Refute it at one input. -/
def fnExactUnionClassWrong : ChangeSpec := { name := "fnExactUnionClass", fn := fun _ => fun
  | [d1, d2] => { results := [.lit (.bool false)], args := [d1, d2] }
  | _ => none }
def FnExactUnionClassWrongFalsely : Prop := fnExactUnionClassRow.holds Try.pinned (OpenSpec.ofChange fnExactUnionClassWrong)

/-- 'laws.FnExactRuleText': WHATEVER THE INPUT: true; the input reads as it did. -/
def fnExactRuleTextSpec : ChangeSpec := { name := "fnExactRuleText", fn := fun _ => fun
  | [d] => { results := [.lit (.bool true)], args := [d] }
  | _ => none }
def fnExactRuleTextRow : OpenClaim := { program := "ytdahcapolipnbaa", sum := "7e86191fc42e825948e52061a83dcb69cc2691cca782fbdf30de0cd782074c2f", func := "loop.example/g00883/laws.FnExactRuleText", spec := "fnExactRuleText", inPlace := ["internal/abi.NoEscape", "internal/bytealg.MakeNoZero"], unfollowed := true, recurses := true, apart := false }
def FnExactRuleTextSaid : Prop := fnExactRuleTextRow.holds Try.pinned (OpenSpec.ofChange fnExactRuleTextSpec)

/-- ITS FALSE NEIGHBOUR: 'it returns false'. Refute it at one input. -/
def fnExactRuleTextWrong : ChangeSpec := { name := "fnExactRuleText", fn := fun _ => fun
  | [d] => { results := [.lit (.bool false)], args := [d] }
  | _ => none }
def FnExactRuleTextWrongFalsely : Prop := fnExactRuleTextRow.holds Try.pinned (OpenSpec.ofChange fnExactRuleTextWrong)

/-- 'laws.FnExactMatchesAt': WHATEVER THE INPUT: true; the input reads as it did. -/
def fnExactMatchesAtSpec : ChangeSpec := { name := "fnExactMatchesAt", fn := fun _ => fun
  | [d1, d2, d3] => { results := [.lit (.bool true)], args := [d1, d2, d3] }
  | _ => none }
def fnExactMatchesAtRow : OpenClaim := { program := "ytdahcapolipnbaa", sum := "7e86191fc42e825948e52061a83dcb69cc2691cca782fbdf30de0cd782074c2f", func := "loop.example/g00883/laws.FnExactMatchesAt", spec := "fnExactMatchesAt", unfollowed := true, recurses := true, apart := false }
def FnExactMatchesAtSaid : Prop := fnExactMatchesAtRow.holds Try.pinned (OpenSpec.ofChange fnExactMatchesAtSpec)

/-- ITS FALSE NEIGHBOUR: 'it returns false'. Refute it at one input. -/
def fnExactMatchesAtWrong : ChangeSpec := { name := "fnExactMatchesAt", fn := fun _ => fun
  | [d1, d2, d3] => { results := [.lit (.bool false)], args := [d1, d2, d3] }
  | _ => none }
def FnExactMatchesAtWrongFalsely : Prop := fnExactMatchesAtRow.holds Try.pinned (OpenSpec.ofChange fnExactMatchesAtWrong)

/-- 'laws.FnExactApplyRule': WHATEVER THE INPUT: true; the input reads as it did. -/
def fnExactApplyRuleSpec : ChangeSpec := { name := "fnExactApplyRule", fn := fun _ => fun
  | [d1, d2, d3] => { results := [.lit (.bool true)], args := [d1, d2, d3] }
  | _ => none }
def fnExactApplyRuleRow : OpenClaim := { program := "ytdahcapolipnbaa", sum := "7e86191fc42e825948e52061a83dcb69cc2691cca782fbdf30de0cd782074c2f", func := "loop.example/g00883/laws.FnExactApplyRule", spec := "fnExactApplyRule", unfollowed := true, recurses := true, apart := false }
def FnExactApplyRuleSaid : Prop := fnExactApplyRuleRow.holds Try.pinned (OpenSpec.ofChange fnExactApplyRuleSpec)

/-- ITS FALSE NEIGHBOUR: 'it returns false'. Refute it at one input. -/
def fnExactApplyRuleWrong : ChangeSpec := { name := "fnExactApplyRule", fn := fun _ => fun
  | [d1, d2, d3] => { results := [.lit (.bool false)], args := [d1, d2, d3] }
  | _ => none }
def FnExactApplyRuleWrongFalsely : Prop := fnExactApplyRuleRow.holds Try.pinned (OpenSpec.ofChange fnExactApplyRuleWrong)

/-- 'laws.FnExactRuleFor': WHATEVER THE INPUT: true; the input reads as it did. -/
def fnExactRuleForSpec : ChangeSpec := { name := "fnExactRuleFor", fn := fun _ => fun
  | [d1, d2, d3] => { results := [.lit (.bool true)], args := [d1, d2, d3] }
  | _ => none }
def fnExactRuleForRow : OpenClaim := { program := "ytdahcapolipnbaa", sum := "7e86191fc42e825948e52061a83dcb69cc2691cca782fbdf30de0cd782074c2f", func := "loop.example/g00883/laws.FnExactRuleFor", spec := "fnExactRuleFor", unfollowed := true, recurses := true, apart := false }
def FnExactRuleForSaid : Prop := fnExactRuleForRow.holds Try.pinned (OpenSpec.ofChange fnExactRuleForSpec)

/-- ITS FALSE NEIGHBOUR: 'it returns false'. Refute it at one input. -/
def fnExactRuleForWrong : ChangeSpec := { name := "fnExactRuleFor", fn := fun _ => fun
  | [d1, d2, d3] => { results := [.lit (.bool false)], args := [d1, d2, d3] }
  | _ => none }
def FnExactRuleForWrongFalsely : Prop := fnExactRuleForRow.holds Try.pinned (OpenSpec.ofChange fnExactRuleForWrong)

/-- 'laws.FnExactTraceLookup': WHATEVER THE INPUT: true; the input reads as it did. -/
def fnExactTraceLookupSpec : ChangeSpec := { name := "fnExactTraceLookup", fn := fun _ => fun
  | [d1, d2] => { results := [.lit (.bool true)], args := [d1, d2] }
  | _ => none }
def fnExactTraceLookupRow : OpenClaim := { program := "ytdahcapolipnbaa", sum := "7e86191fc42e825948e52061a83dcb69cc2691cca782fbdf30de0cd782074c2f", func := "loop.example/g00883/laws.FnExactTraceLookup", spec := "fnExactTraceLookup", unfollowed := true, recurses := true, apart := false }
def FnExactTraceLookupSaid : Prop := fnExactTraceLookupRow.holds Try.pinned (OpenSpec.ofChange fnExactTraceLookupSpec)

/-- ITS FALSE NEIGHBOUR: 'it returns false'. Refute it at one input. -/
def fnExactTraceLookupWrong : ChangeSpec := { name := "fnExactTraceLookup", fn := fun _ => fun
  | [d1, d2] => { results := [.lit (.bool false)], args := [d1, d2] }
  | _ => none }
def FnExactTraceLookupWrongFalsely : Prop := fnExactTraceLookupRow.holds Try.pinned (OpenSpec.ofChange fnExactTraceLookupWrong)

/-- 'laws.FnExactSameFeatures': WHATEVER THE INPUT: true; the input reads as it did. -/
def fnExactSameFeaturesSpec : ChangeSpec := { name := "fnExactSameFeatures", fn := fun _ => fun
  | [d1, d2] => { results := [.lit (.bool true)], args := [d1, d2] }
  | _ => none }
def fnExactSameFeaturesRow : OpenClaim := { program := "ytdahcapolipnbaa", sum := "7e86191fc42e825948e52061a83dcb69cc2691cca782fbdf30de0cd782074c2f", func := "loop.example/g00883/laws.FnExactSameFeatures", spec := "fnExactSameFeatures", unfollowed := true, recurses := true, apart := false }
def FnExactSameFeaturesSaid : Prop := fnExactSameFeaturesRow.holds Try.pinned (OpenSpec.ofChange fnExactSameFeaturesSpec)

/-- ITS FALSE NEIGHBOUR: 'it returns false'. Refute it at one input. -/
def fnExactSameFeaturesWrong : ChangeSpec := { name := "fnExactSameFeatures", fn := fun _ => fun
  | [d1, d2] => { results := [.lit (.bool false)], args := [d1, d2] }
  | _ => none }
def FnExactSameFeaturesWrongFalsely : Prop := fnExactSameFeaturesRow.holds Try.pinned (OpenSpec.ofChange fnExactSameFeaturesWrong)

/- THE SECOND FORM. 'bulk': how many values and letters a reading holds, each counted each time it is reached (what is shared counts as often as it is met; a slice's spare places count too). A statement '..UptoSaid' is the law's where the arguments, and the package variables that the reading takes, are together of bulk at most 1048576: NARROWER than '..Said'. Prove '..Said' where nothing that the law and all that it calls make is longer than what came in: it says more and counts as full. Else prove '..UptoSaid'. A law counts once. -/
mutual
def uptoBulk {H : Type} : DataW H → Nat
  | .lit (.string bytes) => bytes.length + 1
  | .lit _ => 1
  | .nil => 1
  | .ptr d => uptoBulk d + 1
  | .slice elems spare => uptoBulkAll elems + uptoBulkAll spare + 1
  | .agg parts => uptoBulkAll parts + 1
  | .iface _ d => uptoBulk d + 1
  | .map entries => uptoBulkEntries entries + 1
  | .held _ => 1
def uptoBulkAll {H : Type} : List (DataW H) → Nat
  | [] => 0
  | d :: r => uptoBulk d + uptoBulkAll r
def uptoBulkEntries {H : Type} : List (Lit × DataW H) → Nat
  | [] => 0
  | x :: r => uptoBulkEntry x + uptoBulkEntries r
def uptoBulkEntry {H : Type} : Lit × DataW H → Nat
  | (.string bytes, d) => bytes.length + uptoBulk d + 1
  | (_, d) => uptoBulk d + 1
 end
def uptoSmall : (H : Type) → List (DataW H) → Bool := fun _ ds => decide (uptoBulkAll ds ≤ 1048576)
def OpenSpec.upto (s : _root_.Go.ChangeSpec) : _root_.Go.OpenSpec := { _root_.Go.OpenSpec.ofChange s with cond := some uptoSmall }

/-- 'laws.FnExactClassText', WHERE WHAT IT READS IS OF BULK AT MOST 1048576: true; the input reads as it did. -/
def fnExactClassTextUptoRow : OpenClaim := { program := "ytdahcapolipnbaa", sum := "7e86191fc42e825948e52061a83dcb69cc2691cca782fbdf30de0cd782074c2f", func := "loop.example/g00883/laws.FnExactClassText", spec := "fnExactClassText", inPlace := ["internal/abi.NoEscape", "internal/bytealg.MakeNoZero"], apart := false, narrowed := true }
def FnExactClassTextUptoSaid : Prop := fnExactClassTextUptoRow.holds Try.pinned (OpenSpec.upto fnExactClassTextSpec)

/-- 'laws.FnExactDecodeClass', WHERE WHAT IT READS IS OF BULK AT MOST 1048576: true; the input reads as it did. -/
def fnExactDecodeClassUptoRow : OpenClaim := { program := "ytdahcapolipnbaa", sum := "7e86191fc42e825948e52061a83dcb69cc2691cca782fbdf30de0cd782074c2f", func := "loop.example/g00883/laws.FnExactDecodeClass", spec := "fnExactDecodeClass", inPlace := ["internal/abi.NoEscape"], apart := false, narrowed := true }
def FnExactDecodeClassUptoSaid : Prop := fnExactDecodeClassUptoRow.holds Try.pinned (OpenSpec.upto fnExactDecodeClassSpec)

/-- 'laws.FnExactUnionClass', WHERE WHAT IT READS IS OF BULK AT MOST 1048576: true; the input reads as it did. -/
def fnExactUnionClassUptoRow : OpenClaim := { program := "ytdahcapolipnbaa", sum := "7e86191fc42e825948e52061a83dcb69cc2691cca782fbdf30de0cd782074c2f", func := "loop.example/g00883/laws.FnExactUnionClass", spec := "fnExactUnionClass", recurses := true, apart := false, narrowed := true }
def FnExactUnionClassUptoSaid : Prop := fnExactUnionClassUptoRow.holds Try.pinned (OpenSpec.upto fnExactUnionClassSpec)

/-- 'laws.FnExactRuleText', WHERE WHAT IT READS IS OF BULK AT MOST 1048576: true; the input reads as it did. -/
def fnExactRuleTextUptoRow : OpenClaim := { program := "ytdahcapolipnbaa", sum := "7e86191fc42e825948e52061a83dcb69cc2691cca782fbdf30de0cd782074c2f", func := "loop.example/g00883/laws.FnExactRuleText", spec := "fnExactRuleText", inPlace := ["internal/abi.NoEscape", "internal/bytealg.MakeNoZero"], unfollowed := true, recurses := true, apart := false, narrowed := true }
def FnExactRuleTextUptoSaid : Prop := fnExactRuleTextUptoRow.holds Try.pinned (OpenSpec.upto fnExactRuleTextSpec)

/-- 'laws.FnExactMatchesAt', WHERE WHAT IT READS IS OF BULK AT MOST 1048576: true; the input reads as it did. -/
def fnExactMatchesAtUptoRow : OpenClaim := { program := "ytdahcapolipnbaa", sum := "7e86191fc42e825948e52061a83dcb69cc2691cca782fbdf30de0cd782074c2f", func := "loop.example/g00883/laws.FnExactMatchesAt", spec := "fnExactMatchesAt", unfollowed := true, recurses := true, apart := false, narrowed := true }
def FnExactMatchesAtUptoSaid : Prop := fnExactMatchesAtUptoRow.holds Try.pinned (OpenSpec.upto fnExactMatchesAtSpec)

/-- 'laws.FnExactApplyRule', WHERE WHAT IT READS IS OF BULK AT MOST 1048576: true; the input reads as it did. -/
def fnExactApplyRuleUptoRow : OpenClaim := { program := "ytdahcapolipnbaa", sum := "7e86191fc42e825948e52061a83dcb69cc2691cca782fbdf30de0cd782074c2f", func := "loop.example/g00883/laws.FnExactApplyRule", spec := "fnExactApplyRule", unfollowed := true, recurses := true, apart := false, narrowed := true }
def FnExactApplyRuleUptoSaid : Prop := fnExactApplyRuleUptoRow.holds Try.pinned (OpenSpec.upto fnExactApplyRuleSpec)

/-- 'laws.FnExactRuleFor', WHERE WHAT IT READS IS OF BULK AT MOST 1048576: true; the input reads as it did. -/
def fnExactRuleForUptoRow : OpenClaim := { program := "ytdahcapolipnbaa", sum := "7e86191fc42e825948e52061a83dcb69cc2691cca782fbdf30de0cd782074c2f", func := "loop.example/g00883/laws.FnExactRuleFor", spec := "fnExactRuleFor", unfollowed := true, recurses := true, apart := false, narrowed := true }
def FnExactRuleForUptoSaid : Prop := fnExactRuleForUptoRow.holds Try.pinned (OpenSpec.upto fnExactRuleForSpec)

/-- 'laws.FnExactTraceLookup', WHERE WHAT IT READS IS OF BULK AT MOST 1048576: true; the input reads as it did. -/
def fnExactTraceLookupUptoRow : OpenClaim := { program := "ytdahcapolipnbaa", sum := "7e86191fc42e825948e52061a83dcb69cc2691cca782fbdf30de0cd782074c2f", func := "loop.example/g00883/laws.FnExactTraceLookup", spec := "fnExactTraceLookup", unfollowed := true, recurses := true, apart := false, narrowed := true }
def FnExactTraceLookupUptoSaid : Prop := fnExactTraceLookupUptoRow.holds Try.pinned (OpenSpec.upto fnExactTraceLookupSpec)

/-- 'laws.FnExactSameFeatures', WHERE WHAT IT READS IS OF BULK AT MOST 1048576: true; the input reads as it did. -/
def fnExactSameFeaturesUptoRow : OpenClaim := { program := "ytdahcapolipnbaa", sum := "7e86191fc42e825948e52061a83dcb69cc2691cca782fbdf30de0cd782074c2f", func := "loop.example/g00883/laws.FnExactSameFeatures", spec := "fnExactSameFeatures", unfollowed := true, recurses := true, apart := false, narrowed := true }
def FnExactSameFeaturesUptoSaid : Prop := fnExactSameFeaturesUptoRow.holds Try.pinned (OpenSpec.upto fnExactSameFeaturesSpec)

end Rows
end Go.Proofs.Ytdahcapolipnbaa
