/-
  DERIVED. GIVEN WITH THE SEED: THE CARDS: each row of YtfmmfgjelaekhaaDoorRows.lean that lists a variable, with what it lists TIED to the program's text (the seventh form; the later family's looks); each row that meets fmt, with fmt's text TOLD by the authors' own Lean function (tested against real Go, not proved from fmt's source: count such statements apart). THE CARD IS WHAT COUNTS. Prove the row's statement (the work); the ties are given (YtfmmfgjelaekhaaDoorTie.lean); close each card by the builder's one call (the guide's Derived/Test/ToyasCard.lean, 'card_holds'). Laid BY PROGRAM, IN A SANDBOX (cutbox-door.mjs). By AI agents, Wed Nov 11 2026. No macro, syntax, notation, axiom, sorry.
-/
import Derived.Test.YtfmmfgjelaekhaaDoorRows
import GoSem.ClaimSeven
namespace Go.Proofs.YtfmmfgjelaekhaaDoor
namespace Rows

/-- THE TIED CARD OF 'laws.FnThen'. -/
def fnThenCard : Claim7 := { stood := { row := fnThenRow, standIns := [], harness := (true, "54c237565d22a9a0117c8207d51bbec67d08b2c84300899f5547b5ded97f98db"), looks := false }, kinds := [], alts := [], laidByText := true, laidKinds := [.listed, .data], laidTests := true, laidLooks := .later }
def FnThenCardSaid : Prop := Claim7.holds Tryd.pinned (.plain (OpenSpec.ofChange fnThenSpec)) fnThenCard

/-- THE TIED CARD OF 'laws.FnExactCodeOk'. -/
def fnExactCodeOkCard : Claim7 := { stood := { row := fnExactCodeOkRow, standIns := [], harness := (true, "54c237565d22a9a0117c8207d51bbec67d08b2c84300899f5547b5ded97f98db"), looks := false }, kinds := [], alts := [], laidByText := true, laidKinds := [.listed, .data], laidTests := true, laidLooks := .later }
def FnExactCodeOkCardSaid : Prop := Claim7.holds Tryd.pinned (.plain (OpenSpec.ofChange fnExactCodeOkSpec)) fnExactCodeOkCard

/-- THE TIED CARD OF 'laws.FnExactShapeOk'. -/
def fnExactShapeOkCard : Claim7 := { stood := { row := fnExactShapeOkRow, standIns := [], harness := (true, "54c237565d22a9a0117c8207d51bbec67d08b2c84300899f5547b5ded97f98db"), looks := false }, kinds := [], alts := [], laidByText := true, laidKinds := [.listed, .data], laidTests := true, laidLooks := .later }
def FnExactShapeOkCardSaid : Prop := Claim7.holds Tryd.pinned (.plain (OpenSpec.ofChange fnExactShapeOkSpec)) fnExactShapeOkCard

/-- THE TIED CARD OF 'laws.FnExactTreeOf'. -/
def fnExactTreeOfCard : Claim7 := { stood := { row := fnExactTreeOfRow, standIns := [], harness := (true, "54c237565d22a9a0117c8207d51bbec67d08b2c84300899f5547b5ded97f98db"), looks := false }, kinds := [], alts := [], laidByText := true, laidKinds := [.listed, .data], laidTests := true, laidLooks := .later }
def FnExactTreeOfCardSaid : Prop := Claim7.holds Tryd.pinned (.plain (OpenSpec.ofChange fnExactTreeOfSpec)) fnExactTreeOfCard

/-- THE TIED CARD OF 'laws.FnExactFlatOf'. -/
def fnExactFlatOfCard : Claim7 := { stood := { row := fnExactFlatOfRow, standIns := [], harness := (true, "54c237565d22a9a0117c8207d51bbec67d08b2c84300899f5547b5ded97f98db"), looks := false }, kinds := [], alts := [], laidByText := true, laidKinds := [.listed, .data], laidTests := true, laidLooks := .later }
def FnExactFlatOfCardSaid : Prop := Claim7.holds Tryd.pinned (.plain (OpenSpec.ofChange fnExactFlatOfSpec)) fnExactFlatOfCard

/-- THE TIED CARD OF 'laws.FnExactDefsOk'. -/
def fnExactDefsOkCard : Claim7 := { stood := { row := fnExactDefsOkRow, standIns := [], harness := (true, "54c237565d22a9a0117c8207d51bbec67d08b2c84300899f5547b5ded97f98db"), looks := false }, kinds := [], alts := [], laidByText := true, laidKinds := [.listed, .data], laidTests := true, laidLooks := .later }
def FnExactDefsOkCardSaid : Prop := Claim7.holds Tryd.pinned (.plain (OpenSpec.ofChange fnExactDefsOkSpec)) fnExactDefsOkCard

/-- THE TIED CARD OF 'laws.FnExactInsText'. -/
def fnExactInsTextCard : Claim7 := { stood := { row := fnExactInsTextRow, standIns := [], harness := (true, "54c237565d22a9a0117c8207d51bbec67d08b2c84300899f5547b5ded97f98db"), looks := false }, kinds := [], alts := [], laidByText := true, laidKinds := [.data, .data, .data, .listed, .data], laidTests := true, laidLooks := .later }
def FnExactInsTextCardSaid : Prop := Claim7.holds Tryd.pinned (.plain (OpenSpec.ofChange fnExactInsTextSpec)) fnExactInsTextCard

/-- THE TIED CARD OF 'laws.FnExactOpText'. -/
def fnExactOpTextCard : Claim7 := { stood := { row := fnExactOpTextRow, standIns := [], harness := (true, "54c237565d22a9a0117c8207d51bbec67d08b2c84300899f5547b5ded97f98db"), looks := false }, kinds := [], alts := [], laidByText := true, laidKinds := [.data, .data, .data, .listed, .data], laidTests := true, laidLooks := .later }
def FnExactOpTextCardSaid : Prop := Claim7.holds Tryd.pinned (.plain (OpenSpec.ofChange fnExactOpTextSpec)) fnExactOpTextCard

/-- THE TIED CARD OF 'laws.FnExactBodyText'. -/
def fnExactBodyTextCard : Claim7 := { stood := { row := fnExactBodyTextRow, standIns := [], harness := (true, "54c237565d22a9a0117c8207d51bbec67d08b2c84300899f5547b5ded97f98db"), looks := false }, kinds := [], alts := [], laidByText := true, laidKinds := [.data, .data, .data, .listed, .data], laidTests := true, laidLooks := .later }
def FnExactBodyTextCardSaid : Prop := Claim7.holds Tryd.pinned (.plain (OpenSpec.ofChange fnExactBodyTextSpec)) fnExactBodyTextCard

/-- THE TIED CARD OF 'laws.FnExactListing'. -/
def fnExactListingCard : Claim7 := { stood := { row := fnExactListingRow, standIns := [], harness := (true, "54c237565d22a9a0117c8207d51bbec67d08b2c84300899f5547b5ded97f98db"), looks := false }, kinds := [], alts := [], laidByText := true, laidKinds := [.data, .data, .data, .listed, .data], laidTests := true, laidLooks := .later }
def FnExactListingCardSaid : Prop := Claim7.holds Tryd.pinned (.plain (OpenSpec.ofChange fnExactListingSpec)) fnExactListingCard

/-- THE TIED CARD OF 'laws.FnTrees'. -/
def fnTreesCard : Claim7 := { stood := { row := fnTreesRow, standIns := [], harness := (true, "54c237565d22a9a0117c8207d51bbec67d08b2c84300899f5547b5ded97f98db"), looks := false }, kinds := [], alts := [], laidByText := true, laidKinds := [.listed, .data], laidTests := true, laidLooks := .later }
def FnTreesCardSaid : Prop := Claim7.holds Tryd.pinned (.plain (OpenSpec.ofChange fnTreesSpec)) fnTreesCard

/-- THE TIED CARD OF 'laws.FnExactEffectsOf'. -/
def fnExactEffectsOfCard : Claim7 := { stood := { row := fnExactEffectsOfRow, standIns := [], harness := (true, "54c237565d22a9a0117c8207d51bbec67d08b2c84300899f5547b5ded97f98db"), looks := false }, kinds := [], alts := [], laidByText := true, laidKinds := [.listed, .data], laidTests := true, laidLooks := .later }
def FnExactEffectsOfCardSaid : Prop := Claim7.holds Tryd.pinned (.plain (OpenSpec.ofChange fnExactEffectsOfSpec)) fnExactEffectsOfCard

/-- THE SECOND FORM's CARD OF 'laws.FnThen'. -/
def fnThenUptoCard : Claim7 := { stood := { row := fnThenUptoRow, standIns := [], harness := (true, "54c237565d22a9a0117c8207d51bbec67d08b2c84300899f5547b5ded97f98db"), looks := false }, kinds := [], alts := [], laidByText := true, laidKinds := [.listed, .data], laidTests := true, laidLooks := .later }
def FnThenUptoCardSaid : Prop := Claim7.holds Tryd.pinned (.plain (OpenSpec.upto fnThenSpec)) fnThenUptoCard

/-- THE SECOND FORM's CARD OF 'laws.FnExactCodeOk'. -/
def fnExactCodeOkUptoCard : Claim7 := { stood := { row := fnExactCodeOkUptoRow, standIns := [], harness := (true, "54c237565d22a9a0117c8207d51bbec67d08b2c84300899f5547b5ded97f98db"), looks := false }, kinds := [], alts := [], laidByText := true, laidKinds := [.listed, .data], laidTests := true, laidLooks := .later }
def FnExactCodeOkUptoCardSaid : Prop := Claim7.holds Tryd.pinned (.plain (OpenSpec.upto fnExactCodeOkSpec)) fnExactCodeOkUptoCard

/-- THE SECOND FORM's CARD OF 'laws.FnExactShapeOk'. -/
def fnExactShapeOkUptoCard : Claim7 := { stood := { row := fnExactShapeOkUptoRow, standIns := [], harness := (true, "54c237565d22a9a0117c8207d51bbec67d08b2c84300899f5547b5ded97f98db"), looks := false }, kinds := [], alts := [], laidByText := true, laidKinds := [.listed, .data], laidTests := true, laidLooks := .later }
def FnExactShapeOkUptoCardSaid : Prop := Claim7.holds Tryd.pinned (.plain (OpenSpec.upto fnExactShapeOkSpec)) fnExactShapeOkUptoCard

/-- THE SECOND FORM's CARD OF 'laws.FnExactTreeOf'. -/
def fnExactTreeOfUptoCard : Claim7 := { stood := { row := fnExactTreeOfUptoRow, standIns := [], harness := (true, "54c237565d22a9a0117c8207d51bbec67d08b2c84300899f5547b5ded97f98db"), looks := false }, kinds := [], alts := [], laidByText := true, laidKinds := [.listed, .data], laidTests := true, laidLooks := .later }
def FnExactTreeOfUptoCardSaid : Prop := Claim7.holds Tryd.pinned (.plain (OpenSpec.upto fnExactTreeOfSpec)) fnExactTreeOfUptoCard

/-- THE SECOND FORM's CARD OF 'laws.FnExactFlatOf'. -/
def fnExactFlatOfUptoCard : Claim7 := { stood := { row := fnExactFlatOfUptoRow, standIns := [], harness := (true, "54c237565d22a9a0117c8207d51bbec67d08b2c84300899f5547b5ded97f98db"), looks := false }, kinds := [], alts := [], laidByText := true, laidKinds := [.listed, .data], laidTests := true, laidLooks := .later }
def FnExactFlatOfUptoCardSaid : Prop := Claim7.holds Tryd.pinned (.plain (OpenSpec.upto fnExactFlatOfSpec)) fnExactFlatOfUptoCard

/-- THE SECOND FORM's CARD OF 'laws.FnExactDefsOk'. -/
def fnExactDefsOkUptoCard : Claim7 := { stood := { row := fnExactDefsOkUptoRow, standIns := [], harness := (true, "54c237565d22a9a0117c8207d51bbec67d08b2c84300899f5547b5ded97f98db"), looks := false }, kinds := [], alts := [], laidByText := true, laidKinds := [.listed, .data], laidTests := true, laidLooks := .later }
def FnExactDefsOkUptoCardSaid : Prop := Claim7.holds Tryd.pinned (.plain (OpenSpec.upto fnExactDefsOkSpec)) fnExactDefsOkUptoCard

/-- THE SECOND FORM's CARD OF 'laws.FnExactInsText'. -/
def fnExactInsTextUptoCard : Claim7 := { stood := { row := fnExactInsTextUptoRow, standIns := [], harness := (true, "54c237565d22a9a0117c8207d51bbec67d08b2c84300899f5547b5ded97f98db"), looks := false }, kinds := [], alts := [], laidByText := true, laidKinds := [.data, .data, .data, .listed, .data], laidTests := true, laidLooks := .later }
def FnExactInsTextUptoCardSaid : Prop := Claim7.holds Tryd.pinned (.plain (OpenSpec.upto fnExactInsTextSpec)) fnExactInsTextUptoCard

/-- THE SECOND FORM's CARD OF 'laws.FnExactOpText'. -/
def fnExactOpTextUptoCard : Claim7 := { stood := { row := fnExactOpTextUptoRow, standIns := [], harness := (true, "54c237565d22a9a0117c8207d51bbec67d08b2c84300899f5547b5ded97f98db"), looks := false }, kinds := [], alts := [], laidByText := true, laidKinds := [.data, .data, .data, .listed, .data], laidTests := true, laidLooks := .later }
def FnExactOpTextUptoCardSaid : Prop := Claim7.holds Tryd.pinned (.plain (OpenSpec.upto fnExactOpTextSpec)) fnExactOpTextUptoCard

/-- THE SECOND FORM's CARD OF 'laws.FnExactBodyText'. -/
def fnExactBodyTextUptoCard : Claim7 := { stood := { row := fnExactBodyTextUptoRow, standIns := [], harness := (true, "54c237565d22a9a0117c8207d51bbec67d08b2c84300899f5547b5ded97f98db"), looks := false }, kinds := [], alts := [], laidByText := true, laidKinds := [.data, .data, .data, .listed, .data], laidTests := true, laidLooks := .later }
def FnExactBodyTextUptoCardSaid : Prop := Claim7.holds Tryd.pinned (.plain (OpenSpec.upto fnExactBodyTextSpec)) fnExactBodyTextUptoCard

/-- THE SECOND FORM's CARD OF 'laws.FnExactListing'. -/
def fnExactListingUptoCard : Claim7 := { stood := { row := fnExactListingUptoRow, standIns := [], harness := (true, "54c237565d22a9a0117c8207d51bbec67d08b2c84300899f5547b5ded97f98db"), looks := false }, kinds := [], alts := [], laidByText := true, laidKinds := [.data, .data, .data, .listed, .data], laidTests := true, laidLooks := .later }
def FnExactListingUptoCardSaid : Prop := Claim7.holds Tryd.pinned (.plain (OpenSpec.upto fnExactListingSpec)) fnExactListingUptoCard

/-- THE SECOND FORM's CARD OF 'laws.FnTrees'. -/
def fnTreesUptoCard : Claim7 := { stood := { row := fnTreesUptoRow, standIns := [], harness := (true, "54c237565d22a9a0117c8207d51bbec67d08b2c84300899f5547b5ded97f98db"), looks := false }, kinds := [], alts := [], laidByText := true, laidKinds := [.listed, .data], laidTests := true, laidLooks := .later }
def FnTreesUptoCardSaid : Prop := Claim7.holds Tryd.pinned (.plain (OpenSpec.upto fnTreesSpec)) fnTreesUptoCard

/-- THE SECOND FORM's CARD OF 'laws.FnExactEffectsOf'. -/
def fnExactEffectsOfUptoCard : Claim7 := { stood := { row := fnExactEffectsOfUptoRow, standIns := [], harness := (true, "54c237565d22a9a0117c8207d51bbec67d08b2c84300899f5547b5ded97f98db"), looks := false }, kinds := [], alts := [], laidByText := true, laidKinds := [.listed, .data], laidTests := true, laidLooks := .later }
def FnExactEffectsOfUptoCardSaid : Prop := Claim7.holds Tryd.pinned (.plain (OpenSpec.upto fnExactEffectsOfSpec)) fnExactEffectsOfUptoCard
end Rows
end Go.Proofs.YtfmmfgjelaekhaaDoor
