/-
  DERIVED. GIVEN WITH THE SEED: THE CARDS: each row of YtdahcapolipnbaaDoorRows.lean that lists a variable, with what it lists TIED to the program's text (the seventh form; the later family's looks); each row that meets fmt, with fmt's text TOLD by the authors' own Lean function (tested against real Go, not proved from fmt's source: count such statements apart). THE CARD IS WHAT COUNTS. Prove the row's statement (the work); the ties are given (YtdahcapolipnbaaDoorTie.lean); close each card by the builder's one call (the guide's Derived/Test/ToyasCard.lean, 'card_holds'). Laid BY PROGRAM, IN A SANDBOX (cutbox-door.mjs). By AI agents, Wed Nov 11 2026. No macro, syntax, notation, axiom, sorry.
-/
import Derived.Test.YtdahcapolipnbaaDoorRows
import GoSem.ClaimSeven
namespace Go.Proofs.YtdahcapolipnbaaDoor
namespace Rows

/-- THE TIED CARD OF 'laws.FnExactReadClass'. -/
def fnExactReadClassCard : Claim7 := { stood := { row := fnExactReadClassRow, standIns := [], harness := (true, "6df364634b6aeaa885dd00f2241fe9cdbf17c532ffd0ead0d2d617b7101448f7"), looks := false }, kinds := [], alts := [], laidByText := true, laidKinds := [.data, .pinned], laidTests := true, laidLooks := .later }
def FnExactReadClassCardSaid : Prop := Claim7.holds Tryd.pinned (.plain (OpenSpec.ofChange fnExactReadClassSpec)) fnExactReadClassCard

/-- THE TIED CARD OF 'laws.FnClasses'. -/
def fnClassesCard : Claim7 := { stood := { row := fnClassesRow, standIns := [], harness := (true, "6df364634b6aeaa885dd00f2241fe9cdbf17c532ffd0ead0d2d617b7101448f7"), looks := false }, kinds := [], alts := [], laidByText := true, laidKinds := [.data, .pinned], laidTests := true, laidLooks := .later }
def FnClassesCardSaid : Prop := Claim7.holds Tryd.pinned (.plain (OpenSpec.ofChange fnClassesSpec)) fnClassesCard

/-- THE TIED CARD OF 'laws.FnExactReadRule'. -/
def fnExactReadRuleCard : Claim7 := { stood := { row := fnExactReadRuleRow, standIns := [], harness := (true, "6df364634b6aeaa885dd00f2241fe9cdbf17c532ffd0ead0d2d617b7101448f7"), looks := false }, kinds := [], alts := [], laidByText := true, laidKinds := [.data, .pinned], laidTests := true, laidLooks := .later }
def FnExactReadRuleCardSaid : Prop := Claim7.holds Tryd.pinned (.plain (OpenSpec.ofChange fnExactReadRuleSpec)) fnExactReadRuleCard

/-- THE SECOND FORM's CARD OF 'laws.FnExactReadClass'. -/
def fnExactReadClassUptoCard : Claim7 := { stood := { row := fnExactReadClassUptoRow, standIns := [], harness := (true, "6df364634b6aeaa885dd00f2241fe9cdbf17c532ffd0ead0d2d617b7101448f7"), looks := false }, kinds := [], alts := [], laidByText := true, laidKinds := [.data, .pinned], laidTests := true, laidLooks := .later }
def FnExactReadClassUptoCardSaid : Prop := Claim7.holds Tryd.pinned (.plain (OpenSpec.upto fnExactReadClassSpec)) fnExactReadClassUptoCard

/-- THE SECOND FORM's CARD OF 'laws.FnClasses'. -/
def fnClassesUptoCard : Claim7 := { stood := { row := fnClassesUptoRow, standIns := [], harness := (true, "6df364634b6aeaa885dd00f2241fe9cdbf17c532ffd0ead0d2d617b7101448f7"), looks := false }, kinds := [], alts := [], laidByText := true, laidKinds := [.data, .pinned], laidTests := true, laidLooks := .later }
def FnClassesUptoCardSaid : Prop := Claim7.holds Tryd.pinned (.plain (OpenSpec.upto fnClassesSpec)) fnClassesUptoCard

/-- THE SECOND FORM's CARD OF 'laws.FnExactReadRule'. -/
def fnExactReadRuleUptoCard : Claim7 := { stood := { row := fnExactReadRuleUptoRow, standIns := [], harness := (true, "6df364634b6aeaa885dd00f2241fe9cdbf17c532ffd0ead0d2d617b7101448f7"), looks := false }, kinds := [], alts := [], laidByText := true, laidKinds := [.data, .pinned], laidTests := true, laidLooks := .later }
def FnExactReadRuleUptoCardSaid : Prop := Claim7.holds Tryd.pinned (.plain (OpenSpec.upto fnExactReadRuleSpec)) fnExactReadRuleUptoCard
end Rows
end Go.Proofs.YtdahcapolipnbaaDoor
