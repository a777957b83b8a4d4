/-
  DERIVED. GIVEN WITH THE SEED: THE CARDS: each row of YthngjfipdfckkaaDoorRows.lean that lists a variable, with what it lists TIED to the program's text (the seventh form; the later family's looks); each row that meets fmt, with fmt's text TOLD by the authors' own Lean function (tested against real Go, not proved from fmt's source: count such statements apart). THE CARD IS WHAT COUNTS. Prove the row's statement (the work); the ties are given (YthngjfipdfckkaaDoorTie.lean); close each card by the builder's one call (the guide's Derived/Test/ToyasCard.lean, 'card_holds'). Laid BY PROGRAM, IN A SANDBOX (cutbox-door.mjs). By AI agents, Wed Nov 11 2026. No macro, syntax, notation, axiom, sorry.
-/
import Derived.Test.YthngjfipdfckkaaDoorRows
import GoSem.ClaimSeven
namespace Go.Proofs.YthngjfipdfckkaaDoor
namespace Rows

/-- THE TIED CARD OF 'laws.FnExactValidBitmap'. -/
def fnExactValidBitmapCard : Claim7 := { stood := { row := fnExactValidBitmapRow, standIns := [], harness := (true, "d900b71176f2fbdd3a6ebb26205113633831309c943babaa2273e2e10da40ba0"), looks := false }, kinds := [], alts := [], laidByText := true, laidKinds := [.data, .pinned], laidTests := true, laidLooks := .later }
def FnExactValidBitmapCardSaid : Prop := Claim7.holds Tryd.pinned (.plain (OpenSpec.ofChange fnExactValidBitmapSpec)) fnExactValidBitmapCard

/-- THE TIED CARD OF 'laws.FnExactPixelAt'. -/
def fnExactPixelAtCard : Claim7 := { stood := { row := fnExactPixelAtRow, standIns := [], harness := (true, "d900b71176f2fbdd3a6ebb26205113633831309c943babaa2273e2e10da40ba0"), looks := false }, kinds := [], alts := [], laidByText := true, laidKinds := [.data, .pinned], laidTests := true, laidLooks := .later }
def FnExactPixelAtCardSaid : Prop := Claim7.holds Tryd.pinned (.plain (OpenSpec.ofChange fnExactPixelAtSpec)) fnExactPixelAtCard

/-- THE TIED CARD OF 'laws.FnExactDifferentPixels'. -/
def fnExactDifferentPixelsCard : Claim7 := { stood := { row := fnExactDifferentPixelsRow, standIns := [], harness := (true, "d900b71176f2fbdd3a6ebb26205113633831309c943babaa2273e2e10da40ba0"), looks := false }, kinds := [], alts := [], laidByText := true, laidKinds := [.data, .pinned], laidTests := true, laidLooks := .later }
def FnExactDifferentPixelsCardSaid : Prop := Claim7.holds Tryd.pinned (.plain (OpenSpec.ofChange fnExactDifferentPixelsSpec)) fnExactDifferentPixelsCard

/-- THE TIED CARD OF 'laws.FnExactBitmapText'. -/
def fnExactBitmapTextCard : Claim7 := { stood := { row := fnExactBitmapTextRow, standIns := [], harness := (true, "d900b71176f2fbdd3a6ebb26205113633831309c943babaa2273e2e10da40ba0"), looks := false }, kinds := [], alts := [], laidByText := true, laidKinds := [.data, .pinned], laidTests := true, laidLooks := .later }
def FnExactBitmapTextCardSaid : Prop := Claim7.holds Tryd.pinned (.plain (OpenSpec.ofChange fnExactBitmapTextSpec)) fnExactBitmapTextCard

/-- THE TIED CARD OF 'laws.FnExactInkOf'. -/
def fnExactInkOfCard : Claim7 := { stood := { row := fnExactInkOfRow, standIns := [], harness := (true, "d900b71176f2fbdd3a6ebb26205113633831309c943babaa2273e2e10da40ba0"), looks := false }, kinds := [], alts := [], laidByText := true, laidKinds := [.data, .pinned], laidTests := true, laidLooks := .later }
def FnExactInkOfCardSaid : Prop := Claim7.holds Tryd.pinned (.plain (OpenSpec.ofChange fnExactInkOfSpec)) fnExactInkOfCard

/-- THE TIED CARD OF 'laws.FnExactReadBitmap'. -/
def fnExactReadBitmapCard : Claim7 := { stood := { row := fnExactReadBitmapRow, standIns := [], harness := (true, "d900b71176f2fbdd3a6ebb26205113633831309c943babaa2273e2e10da40ba0"), looks := false }, kinds := [], alts := [], laidByText := true, laidKinds := [.data, .pinned], laidTests := true, laidLooks := .later }
def FnExactReadBitmapCardSaid : Prop := Claim7.holds Tryd.pinned (.plain (OpenSpec.ofChange fnExactReadBitmapSpec)) fnExactReadBitmapCard

/-- THE SECOND FORM's CARD OF 'laws.FnExactValidBitmap'. -/
def fnExactValidBitmapUptoCard : Claim7 := { stood := { row := fnExactValidBitmapUptoRow, standIns := [], harness := (true, "d900b71176f2fbdd3a6ebb26205113633831309c943babaa2273e2e10da40ba0"), looks := false }, kinds := [], alts := [], laidByText := true, laidKinds := [.data, .pinned], laidTests := true, laidLooks := .later }
def FnExactValidBitmapUptoCardSaid : Prop := Claim7.holds Tryd.pinned (.plain (OpenSpec.upto fnExactValidBitmapSpec)) fnExactValidBitmapUptoCard

/-- THE SECOND FORM's CARD OF 'laws.FnExactPixelAt'. -/
def fnExactPixelAtUptoCard : Claim7 := { stood := { row := fnExactPixelAtUptoRow, standIns := [], harness := (true, "d900b71176f2fbdd3a6ebb26205113633831309c943babaa2273e2e10da40ba0"), looks := false }, kinds := [], alts := [], laidByText := true, laidKinds := [.data, .pinned], laidTests := true, laidLooks := .later }
def FnExactPixelAtUptoCardSaid : Prop := Claim7.holds Tryd.pinned (.plain (OpenSpec.upto fnExactPixelAtSpec)) fnExactPixelAtUptoCard

/-- THE SECOND FORM's CARD OF 'laws.FnExactDifferentPixels'. -/
def fnExactDifferentPixelsUptoCard : Claim7 := { stood := { row := fnExactDifferentPixelsUptoRow, standIns := [], harness := (true, "d900b71176f2fbdd3a6ebb26205113633831309c943babaa2273e2e10da40ba0"), looks := false }, kinds := [], alts := [], laidByText := true, laidKinds := [.data, .pinned], laidTests := true, laidLooks := .later }
def FnExactDifferentPixelsUptoCardSaid : Prop := Claim7.holds Tryd.pinned (.plain (OpenSpec.upto fnExactDifferentPixelsSpec)) fnExactDifferentPixelsUptoCard

/-- THE SECOND FORM's CARD OF 'laws.FnExactBitmapText'. -/
def fnExactBitmapTextUptoCard : Claim7 := { stood := { row := fnExactBitmapTextUptoRow, standIns := [], harness := (true, "d900b71176f2fbdd3a6ebb26205113633831309c943babaa2273e2e10da40ba0"), looks := false }, kinds := [], alts := [], laidByText := true, laidKinds := [.data, .pinned], laidTests := true, laidLooks := .later }
def FnExactBitmapTextUptoCardSaid : Prop := Claim7.holds Tryd.pinned (.plain (OpenSpec.upto fnExactBitmapTextSpec)) fnExactBitmapTextUptoCard

/-- THE SECOND FORM's CARD OF 'laws.FnExactInkOf'. -/
def fnExactInkOfUptoCard : Claim7 := { stood := { row := fnExactInkOfUptoRow, standIns := [], harness := (true, "d900b71176f2fbdd3a6ebb26205113633831309c943babaa2273e2e10da40ba0"), looks := false }, kinds := [], alts := [], laidByText := true, laidKinds := [.data, .pinned], laidTests := true, laidLooks := .later }
def FnExactInkOfUptoCardSaid : Prop := Claim7.holds Tryd.pinned (.plain (OpenSpec.upto fnExactInkOfSpec)) fnExactInkOfUptoCard

/-- THE SECOND FORM's CARD OF 'laws.FnExactReadBitmap'. -/
def fnExactReadBitmapUptoCard : Claim7 := { stood := { row := fnExactReadBitmapUptoRow, standIns := [], harness := (true, "d900b71176f2fbdd3a6ebb26205113633831309c943babaa2273e2e10da40ba0"), looks := false }, kinds := [], alts := [], laidByText := true, laidKinds := [.data, .pinned], laidTests := true, laidLooks := .later }
def FnExactReadBitmapUptoCardSaid : Prop := Claim7.holds Tryd.pinned (.plain (OpenSpec.upto fnExactReadBitmapSpec)) fnExactReadBitmapUptoCard
end Rows
end Go.Proofs.YthngjfipdfckkaaDoor
