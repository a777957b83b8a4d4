/-
  NARROWER THAN 'FOR EVERY INPUT', by the rows' own cells (each row's printed sentence says how): FnExactValidBitmap: laid · FnExactPixelAt: laid · FnExactDifferentPixels: laid · FnExactBitmapText: laid · FnExactInkOf: laid · FnExactReadBitmap: laid.
  DERIVED. THE GIVEN ROWS OF THIS SEAT. 6 by the template 'for every input the law returns true; each argument reads behind the call as it read before'; 0 by the template 'total and deterministic' (their statements: YthngjfipdfckkaaDoorTotals.lean).
  GIVEN WITH THE SEED: the statements are not yours to turn. If you find one false, say at which input.
  Laid BY PROGRAM, IN A SANDBOX (cutbox-rows.mjs): the forced cells as the released guide's own fill.sh prints them over the translation 6bf8190a67719a94… (all of the seat's roots in one cut). By AI agents, Wed Nov 11 2026. No macro, syntax, notation, axiom, sorry.
-/
import Derived.Test.YthngjfipdfckkaaDoorChecked
import GoSem.PinnedTables
import GoSem.Claim
import GoSem.ClaimJoined
import GoSem.ClaimMapViews
import Derived.JoinedTies
import Derived.KernelRfl
namespace Go.Proofs.YthngjfipdfckkaaDoor
/- THE CELL 'sum', in the pinned program and in every row, IS THE sha256 OF THE DUMP (.gsa) THAT YthngjfipdfckkaaDoorProg.lean LOADS. Nothing in Lean hashes anything: it is a label: what it is worth is what the hold of that sum in a sandbox is worth. -/
noncomputable def Tryd.pinned : Pinned := { name := "ythngjfipdfckkaadoor", sum := "6bf8190a67719a942777af7ffc69c624b64cf7be407b4973a609e95f47c92188", checked := Tryd.checked }
namespace Rows
def none {H : Type} : Left H := { results := [], args := [] }

/- WHAT THE LISTED PACKAGE-LEVEL VARIABLES READ AS WHEN THE CALL BEGINS. Each datum BY PROGRAM (the guide's laid-datum.mjs) off the statement by which the dump's own 'gosem.cut.vars' lays the variable. In a bare row this is a premise. The card (YthngjfipdfckkaaDoorCards.lean) ties it to the program's text. -/
def laid_unicode_utf8_acceptRanges {H : Type} : DataW H := .agg [.agg [.lit (.int .u8 128), .lit (.int .u8 191)], .agg [.lit (.int .u8 160), .lit (.int .u8 191)], .agg [.lit (.int .u8 128), .lit (.int .u8 159)], .agg [.lit (.int .u8 144), .lit (.int .u8 191)], .agg [.lit (.int .u8 128), .lit (.int .u8 143)], .agg [.lit (.int .u8 0), .lit (.int .u8 0)], .agg [.lit (.int .u8 0), .lit (.int .u8 0)], .agg [.lit (.int .u8 0), .lit (.int .u8 0)], .agg [.lit (.int .u8 0), .lit (.int .u8 0)], .agg [.lit (.int .u8 0), .lit (.int .u8 0)], .agg [.lit (.int .u8 0), .lit (.int .u8 0)], .agg [.lit (.int .u8 0), .lit (.int .u8 0)], .agg [.lit (.int .u8 0), .lit (.int .u8 0)], .agg [.lit (.int .u8 0), .lit (.int .u8 0)], .agg [.lit (.int .u8 0), .lit (.int .u8 0)], .agg [.lit (.int .u8 0), .lit (.int .u8 0)]]
/-- One of Go's own tables, pinned by name: the form's constant. -/
def laid_unicode_utf8_first : DataW Unit := Go.Pinned.utf8First

/-- 'laws.FnExactValidBitmap': WHATEVER THE INPUT: true; the input reads as it did. -/
def fnExactValidBitmapSpec : ChangeSpec := { name := "fnExactValidBitmap", fn := fun _ => fun
  | [d] => { results := [.lit (.bool true)], args := [d] }
  | _ => none }
def fnExactValidBitmapRow : OpenClaim := { program := "ythngjfipdfckkaadoor", sum := "6bf8190a67719a942777af7ffc69c624b64cf7be407b4973a609e95f47c92188", func := "loop.example/g00883/laws.FnExactValidBitmap", spec := "fnExactValidBitmap", inPlace := ["internal/bytealg.IndexByteString", "internal/bytealg.IndexString"], unfollowed := true, recurses := true, named := ["unicode/utf8.first", "unicode/utf8.acceptRanges", "internal/bytealg.MaxLen"], apart := false, laid := [("unicode/utf8.acceptRanges", laid_unicode_utf8_acceptRanges), ("unicode/utf8.first", laid_unicode_utf8_first)] }
def FnExactValidBitmapSaid : Prop := fnExactValidBitmapRow.holds Tryd.pinned (OpenSpec.ofChange fnExactValidBitmapSpec)

/-- ITS FALSE NEIGHBOUR: 'it returns false'. Refute it at one input. -/
def fnExactValidBitmapWrong : ChangeSpec := { name := "fnExactValidBitmap", fn := fun _ => fun
  | [d] => { results := [.lit (.bool false)], args := [d] }
  | _ => none }
def FnExactValidBitmapWrongFalsely : Prop := fnExactValidBitmapRow.holds Tryd.pinned (OpenSpec.ofChange fnExactValidBitmapWrong)

/-- 'laws.FnExactPixelAt': WHATEVER THE INPUT: true; the input reads as it did. -/
def fnExactPixelAtSpec : ChangeSpec := { name := "fnExactPixelAt", fn := fun _ => fun
  | [d1, d2, d3] => { results := [.lit (.bool true)], args := [d1, d2, d3] }
  | _ => none }
def fnExactPixelAtRow : OpenClaim := { program := "ythngjfipdfckkaadoor", sum := "6bf8190a67719a942777af7ffc69c624b64cf7be407b4973a609e95f47c92188", func := "loop.example/g00883/laws.FnExactPixelAt", spec := "fnExactPixelAt", inPlace := ["internal/bytealg.IndexByteString", "internal/bytealg.IndexString"], unfollowed := true, recurses := true, named := ["unicode/utf8.first", "unicode/utf8.acceptRanges", "internal/bytealg.MaxLen"], apart := false, laid := [("unicode/utf8.acceptRanges", laid_unicode_utf8_acceptRanges), ("unicode/utf8.first", laid_unicode_utf8_first)] }
def FnExactPixelAtSaid : Prop := fnExactPixelAtRow.holds Tryd.pinned (OpenSpec.ofChange fnExactPixelAtSpec)

/-- ITS FALSE NEIGHBOUR: 'it returns false'. Refute it at one input. -/
def fnExactPixelAtWrong : ChangeSpec := { name := "fnExactPixelAt", fn := fun _ => fun
  | [d1, d2, d3] => { results := [.lit (.bool false)], args := [d1, d2, d3] }
  | _ => none }
def FnExactPixelAtWrongFalsely : Prop := fnExactPixelAtRow.holds Tryd.pinned (OpenSpec.ofChange fnExactPixelAtWrong)

/-- 'laws.FnExactDifferentPixels': WHATEVER THE INPUT: true; the input reads as it did. -/
def fnExactDifferentPixelsSpec : ChangeSpec := { name := "fnExactDifferentPixels", fn := fun _ => fun
  | [d1, d2] => { results := [.lit (.bool true)], args := [d1, d2] }
  | _ => none }
def fnExactDifferentPixelsRow : OpenClaim := { program := "ythngjfipdfckkaadoor", sum := "6bf8190a67719a942777af7ffc69c624b64cf7be407b4973a609e95f47c92188", func := "loop.example/g00883/laws.FnExactDifferentPixels", spec := "fnExactDifferentPixels", inPlace := ["internal/bytealg.IndexByteString", "internal/bytealg.IndexString"], unfollowed := true, recurses := true, named := ["unicode/utf8.first", "unicode/utf8.acceptRanges", "internal/bytealg.MaxLen"], apart := false, laid := [("unicode/utf8.acceptRanges", laid_unicode_utf8_acceptRanges), ("unicode/utf8.first", laid_unicode_utf8_first)] }
def FnExactDifferentPixelsSaid : Prop := fnExactDifferentPixelsRow.holds Tryd.pinned (OpenSpec.ofChange fnExactDifferentPixelsSpec)

/-- ITS FALSE NEIGHBOUR: 'it returns false'. Refute it at one input. -/
def fnExactDifferentPixelsWrong : ChangeSpec := { name := "fnExactDifferentPixels", fn := fun _ => fun
  | [d1, d2] => { results := [.lit (.bool false)], args := [d1, d2] }
  | _ => none }
def FnExactDifferentPixelsWrongFalsely : Prop := fnExactDifferentPixelsRow.holds Tryd.pinned (OpenSpec.ofChange fnExactDifferentPixelsWrong)

/-- 'laws.FnExactBitmapText': WHATEVER THE INPUT: true; the input reads as it did. -/
def fnExactBitmapTextSpec : ChangeSpec := { name := "fnExactBitmapText", fn := fun _ => fun
  | [d] => { results := [.lit (.bool true)], args := [d] }
  | _ => none }
def fnExactBitmapTextRow : OpenClaim := { program := "ythngjfipdfckkaadoor", sum := "6bf8190a67719a942777af7ffc69c624b64cf7be407b4973a609e95f47c92188", func := "loop.example/g00883/laws.FnExactBitmapText", spec := "fnExactBitmapText", inPlace := ["internal/bytealg.IndexByteString", "internal/bytealg.IndexString"], unfollowed := true, recurses := true, named := ["unicode/utf8.first", "unicode/utf8.acceptRanges", "internal/bytealg.MaxLen"], apart := false, laid := [("unicode/utf8.acceptRanges", laid_unicode_utf8_acceptRanges), ("unicode/utf8.first", laid_unicode_utf8_first)] }
def FnExactBitmapTextSaid : Prop := fnExactBitmapTextRow.holds Tryd.pinned (OpenSpec.ofChange fnExactBitmapTextSpec)

/-- ITS FALSE NEIGHBOUR: 'it returns false'. Refute it at one input. -/
def fnExactBitmapTextWrong : ChangeSpec := { name := "fnExactBitmapText", fn := fun _ => fun
  | [d] => { results := [.lit (.bool false)], args := [d] }
  | _ => none }
def FnExactBitmapTextWrongFalsely : Prop := fnExactBitmapTextRow.holds Tryd.pinned (OpenSpec.ofChange fnExactBitmapTextWrong)

/-- 'laws.FnExactInkOf': WHATEVER THE INPUT: true; the input reads as it did. -/
def fnExactInkOfSpec : ChangeSpec := { name := "fnExactInkOf", fn := fun _ => fun
  | [d] => { results := [.lit (.bool true)], args := [d] }
  | _ => none }
def fnExactInkOfRow : OpenClaim := { program := "ythngjfipdfckkaadoor", sum := "6bf8190a67719a942777af7ffc69c624b64cf7be407b4973a609e95f47c92188", func := "loop.example/g00883/laws.FnExactInkOf", spec := "fnExactInkOf", inPlace := ["internal/bytealg.IndexByteString", "internal/bytealg.IndexString", "internal/bytealg.CountString"], unfollowed := true, recurses := true, named := ["unicode/utf8.first", "unicode/utf8.acceptRanges", "internal/bytealg.MaxLen"], apart := false, laid := [("unicode/utf8.acceptRanges", laid_unicode_utf8_acceptRanges), ("unicode/utf8.first", laid_unicode_utf8_first)] }
def FnExactInkOfSaid : Prop := fnExactInkOfRow.holds Tryd.pinned (OpenSpec.ofChange fnExactInkOfSpec)

/-- ITS FALSE NEIGHBOUR: 'it returns false'. Refute it at one input. -/
def fnExactInkOfWrong : ChangeSpec := { name := "fnExactInkOf", fn := fun _ => fun
  | [d] => { results := [.lit (.bool false)], args := [d] }
  | _ => none }
def FnExactInkOfWrongFalsely : Prop := fnExactInkOfRow.holds Tryd.pinned (OpenSpec.ofChange fnExactInkOfWrong)

/-- 'laws.FnExactReadBitmap': WHATEVER THE INPUT: true; the input reads as it did. -/
def fnExactReadBitmapSpec : ChangeSpec := { name := "fnExactReadBitmap", fn := fun _ => fun
  | [d] => { results := [.lit (.bool true)], args := [d] }
  | _ => none }
def fnExactReadBitmapRow : OpenClaim := { program := "ythngjfipdfckkaadoor", sum := "6bf8190a67719a942777af7ffc69c624b64cf7be407b4973a609e95f47c92188", func := "loop.example/g00883/laws.FnExactReadBitmap", spec := "fnExactReadBitmap", inPlace := ["internal/bytealg.CountString", "internal/bytealg.IndexByteString", "internal/bytealg.IndexString"], unfollowed := true, recurses := true, named := ["unicode/utf8.first", "unicode/utf8.acceptRanges", "internal/bytealg.MaxLen"], apart := false, laid := [("unicode/utf8.acceptRanges", laid_unicode_utf8_acceptRanges), ("unicode/utf8.first", laid_unicode_utf8_first)] }
def FnExactReadBitmapSaid : Prop := fnExactReadBitmapRow.holds Tryd.pinned (OpenSpec.ofChange fnExactReadBitmapSpec)

/-- ITS FALSE NEIGHBOUR: 'it returns false'. Refute it at one input. -/
def fnExactReadBitmapWrong : ChangeSpec := { name := "fnExactReadBitmap", fn := fun _ => fun
  | [d] => { results := [.lit (.bool false)], args := [d] }
  | _ => none }
def FnExactReadBitmapWrongFalsely : Prop := fnExactReadBitmapRow.holds Tryd.pinned (OpenSpec.ofChange fnExactReadBitmapWrong)

/- THE SECOND FORM. 'bulk': how many values and letters a reading holds, each counted each time it is reached (what is shared counts as often as it is met; a slice's spare places count too). A statement '..UptoSaid' is the law's where the arguments, and the package variables that the reading takes, are together of bulk at most 1048576: NARROWER than '..Said'. Prove '..Said' where nothing that the law and all that it calls make is longer than what came in: it says more and counts as full. Else prove '..UptoSaid'. A law counts once. -/
mutual
def uptoBulk {H : Type} : DataW H → Nat
  | .lit (.string bytes) => bytes.length + 1
  | .lit _ => 1
  | .nil => 1
  | .ptr d => uptoBulk d + 1
  | .slice elems spare => uptoBulkAll elems + uptoBulkAll spare + 1
  | .agg parts => uptoBulkAll parts + 1
  | .iface _ d => uptoBulk d + 1
  | .map entries => uptoBulkEntries entries + 1
  | .held _ => 1
def uptoBulkAll {H : Type} : List (DataW H) → Nat
  | [] => 0
  | d :: r => uptoBulk d + uptoBulkAll r
def uptoBulkEntries {H : Type} : List (Lit × DataW H) → Nat
  | [] => 0
  | x :: r => uptoBulkEntry x + uptoBulkEntries r
def uptoBulkEntry {H : Type} : Lit × DataW H → Nat
  | (.string bytes, d) => bytes.length + uptoBulk d + 1
  | (_, d) => uptoBulk d + 1
 end
def uptoSmall : (H : Type) → List (DataW H) → Bool := fun _ ds => decide (uptoBulkAll ds ≤ 1048576)
def OpenSpec.upto (s : _root_.Go.ChangeSpec) : _root_.Go.OpenSpec := { _root_.Go.OpenSpec.ofChange s with cond := some uptoSmall }

/-- 'laws.FnExactValidBitmap', WHERE WHAT IT READS IS OF BULK AT MOST 1048576: true; the input reads as it did. -/
def fnExactValidBitmapUptoRow : OpenClaim := { program := "ythngjfipdfckkaadoor", sum := "6bf8190a67719a942777af7ffc69c624b64cf7be407b4973a609e95f47c92188", func := "loop.example/g00883/laws.FnExactValidBitmap", spec := "fnExactValidBitmap", inPlace := ["internal/bytealg.IndexByteString", "internal/bytealg.IndexString"], unfollowed := true, recurses := true, named := ["unicode/utf8.first", "unicode/utf8.acceptRanges", "internal/bytealg.MaxLen"], apart := false, laid := [("unicode/utf8.acceptRanges", laid_unicode_utf8_acceptRanges), ("unicode/utf8.first", laid_unicode_utf8_first)], narrowed := true }
def FnExactValidBitmapUptoSaid : Prop := fnExactValidBitmapUptoRow.holds Tryd.pinned (OpenSpec.upto fnExactValidBitmapSpec)

/-- 'laws.FnExactPixelAt', WHERE WHAT IT READS IS OF BULK AT MOST 1048576: true; the input reads as it did. -/
def fnExactPixelAtUptoRow : OpenClaim := { program := "ythngjfipdfckkaadoor", sum := "6bf8190a67719a942777af7ffc69c624b64cf7be407b4973a609e95f47c92188", func := "loop.example/g00883/laws.FnExactPixelAt", spec := "fnExactPixelAt", inPlace := ["internal/bytealg.IndexByteString", "internal/bytealg.IndexString"], unfollowed := true, recurses := true, named := ["unicode/utf8.first", "unicode/utf8.acceptRanges", "internal/bytealg.MaxLen"], apart := false, laid := [("unicode/utf8.acceptRanges", laid_unicode_utf8_acceptRanges), ("unicode/utf8.first", laid_unicode_utf8_first)], narrowed := true }
def FnExactPixelAtUptoSaid : Prop := fnExactPixelAtUptoRow.holds Tryd.pinned (OpenSpec.upto fnExactPixelAtSpec)

/-- 'laws.FnExactDifferentPixels', WHERE WHAT IT READS IS OF BULK AT MOST 1048576: true; the input reads as it did. -/
def fnExactDifferentPixelsUptoRow : OpenClaim := { program := "ythngjfipdfckkaadoor", sum := "6bf8190a67719a942777af7ffc69c624b64cf7be407b4973a609e95f47c92188", func := "loop.example/g00883/laws.FnExactDifferentPixels", spec := "fnExactDifferentPixels", inPlace := ["internal/bytealg.IndexByteString", "internal/bytealg.IndexString"], unfollowed := true, recurses := true, named := ["unicode/utf8.first", "unicode/utf8.acceptRanges", "internal/bytealg.MaxLen"], apart := false, laid := [("unicode/utf8.acceptRanges", laid_unicode_utf8_acceptRanges), ("unicode/utf8.first", laid_unicode_utf8_first)], narrowed := true }
def FnExactDifferentPixelsUptoSaid : Prop := fnExactDifferentPixelsUptoRow.holds Tryd.pinned (OpenSpec.upto fnExactDifferentPixelsSpec)

/-- 'laws.FnExactBitmapText', WHERE WHAT IT READS IS OF BULK AT MOST 1048576: true; the input reads as it did. -/
def fnExactBitmapTextUptoRow : OpenClaim := { program := "ythngjfipdfckkaadoor", sum := "6bf8190a67719a942777af7ffc69c624b64cf7be407b4973a609e95f47c92188", func := "loop.example/g00883/laws.FnExactBitmapText", spec := "fnExactBitmapText", inPlace := ["internal/bytealg.IndexByteString", "internal/bytealg.IndexString"], unfollowed := true, recurses := true, named := ["unicode/utf8.first", "unicode/utf8.acceptRanges", "internal/bytealg.MaxLen"], apart := false, laid := [("unicode/utf8.acceptRanges", laid_unicode_utf8_acceptRanges), ("unicode/utf8.first", laid_unicode_utf8_first)], narrowed := true }
def FnExactBitmapTextUptoSaid : Prop := fnExactBitmapTextUptoRow.holds Tryd.pinned (OpenSpec.upto fnExactBitmapTextSpec)

/-- 'laws.FnExactInkOf', WHERE WHAT IT READS IS OF BULK AT MOST 1048576: true; the input reads as it did. -/
def fnExactInkOfUptoRow : OpenClaim := { program := "ythngjfipdfckkaadoor", sum := "6bf8190a67719a942777af7ffc69c624b64cf7be407b4973a609e95f47c92188", func := "loop.example/g00883/laws.FnExactInkOf", spec := "fnExactInkOf", inPlace := ["internal/bytealg.IndexByteString", "internal/bytealg.IndexString", "internal/bytealg.CountString"], unfollowed := true, recurses := true, named := ["unicode/utf8.first", "unicode/utf8.acceptRanges", "internal/bytealg.MaxLen"], apart := false, laid := [("unicode/utf8.acceptRanges", laid_unicode_utf8_acceptRanges), ("unicode/utf8.first", laid_unicode_utf8_first)], narrowed := true }
def FnExactInkOfUptoSaid : Prop := fnExactInkOfUptoRow.holds Tryd.pinned (OpenSpec.upto fnExactInkOfSpec)

/-- 'laws.FnExactReadBitmap', WHERE WHAT IT READS IS OF BULK AT MOST 1048576: true; the input reads as it did. -/
def fnExactReadBitmapUptoRow : OpenClaim := { program := "ythngjfipdfckkaadoor", sum := "6bf8190a67719a942777af7ffc69c624b64cf7be407b4973a609e95f47c92188", func := "loop.example/g00883/laws.FnExactReadBitmap", spec := "fnExactReadBitmap", inPlace := ["internal/bytealg.CountString", "internal/bytealg.IndexByteString", "internal/bytealg.IndexString"], unfollowed := true, recurses := true, named := ["unicode/utf8.first", "unicode/utf8.acceptRanges", "internal/bytealg.MaxLen"], apart := false, laid := [("unicode/utf8.acceptRanges", laid_unicode_utf8_acceptRanges), ("unicode/utf8.first", laid_unicode_utf8_first)], narrowed := true }
def FnExactReadBitmapUptoSaid : Prop := fnExactReadBitmapUptoRow.holds Tryd.pinned (OpenSpec.upto fnExactReadBitmapSpec)

end Rows
end Go.Proofs.YthngjfipdfckkaaDoor
