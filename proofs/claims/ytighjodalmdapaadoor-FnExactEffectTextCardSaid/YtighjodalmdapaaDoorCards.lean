/-
  DERIVED. GIVEN WITH THE SEED: THE CARDS: each row of YtighjodalmdapaaDoorRows.lean that lists a variable, with what it lists TIED to the program's text (the seventh form; the later family's looks); each row that meets fmt, with fmt's text TOLD by the authors' own Lean function (tested against real Go, not proved from fmt's source: count such statements apart). THE CARD IS WHAT COUNTS. Prove the row's statement (the work); the ties are given (YtighjodalmdapaaDoorTie.lean); close each card by the builder's one call (the guide's Derived/Test/ToyasCard.lean, 'card_holds'). Laid BY PROGRAM, IN A SANDBOX (cutbox-door.mjs). By AI agents, Wed Nov 11 2026. No macro, syntax, notation, axiom, sorry.
-/
import Derived.Test.YtighjodalmdapaaDoorRows
import GoSem.ClaimSeven
namespace Go.Proofs.YtighjodalmdapaaDoor
namespace Rows

/-- THE TIED CARD OF 'laws.FnExactPrimName'. -/
def fnExactPrimNameCard : Claim7 := { stood := { row := fnExactPrimNameRow, standIns := [], harness := (true, "66f247f7c3762a799480b40726371a310a5c0205b0b65f88a7eaf7c3bddfaf53"), looks := false }, kinds := [], alts := [], laidByText := true, laidKinds := [.listed, .data], laidTests := true, laidLooks := .later }
def FnExactPrimNameCardSaid : Prop := Claim7.holds Tryd.pinned (.plain (OpenSpec.ofChange fnExactPrimNameSpec)) fnExactPrimNameCard

/-- THE TIED CARD OF 'laws.FnExactPrimOf'. -/
def fnExactPrimOfCard : Claim7 := { stood := { row := fnExactPrimOfRow, standIns := [], harness := (true, "66f247f7c3762a799480b40726371a310a5c0205b0b65f88a7eaf7c3bddfaf53"), looks := false }, kinds := [], alts := [], laidByText := true, laidKinds := [.listed, .data], laidTests := true, laidLooks := .later }
def FnExactPrimOfCardSaid : Prop := Claim7.holds Tryd.pinned (.plain (OpenSpec.ofChange fnExactPrimOfSpec)) fnExactPrimOfCard

/-- THE TIED CARD OF 'laws.FnExactEffectText'. -/
def fnExactEffectTextCard : Claim7 := { stood := { row := fnExactEffectTextRow, standIns := [], harness := (true, "66f247f7c3762a799480b40726371a310a5c0205b0b65f88a7eaf7c3bddfaf53"), looks := false }, kinds := [], alts := [], laidByText := true, laidKinds := [.data, .data, .data], laidTests := true, laidLooks := .later }
def FnExactEffectTextCardSaid : Prop := Claim7.holds Tryd.pinned (.plain (OpenSpec.ofChange fnExactEffectTextSpec)) fnExactEffectTextCard

/-- THE TIED CARD OF 'laws.FnExactPrimEffect'. -/
def fnExactPrimEffectCard : Claim7 := { stood := { row := fnExactPrimEffectRow, standIns := [], harness := (true, "66f247f7c3762a799480b40726371a310a5c0205b0b65f88a7eaf7c3bddfaf53"), looks := false }, kinds := [], alts := [], laidByText := true, laidKinds := [.listed, .data], laidTests := true, laidLooks := .later }
def FnExactPrimEffectCardSaid : Prop := Claim7.holds Tryd.pinned (.plain (OpenSpec.ofChange fnExactPrimEffectSpec)) fnExactPrimEffectCard

/-- THE TIED CARD OF 'laws.FnExactCodeOk'. -/
def fnExactCodeOkCard : Claim7 := { stood := { row := fnExactCodeOkRow, standIns := [], harness := (true, "66f247f7c3762a799480b40726371a310a5c0205b0b65f88a7eaf7c3bddfaf53"), looks := false }, kinds := [], alts := [], laidByText := true, laidKinds := [.listed, .data], laidTests := true, laidLooks := .later }
def FnExactCodeOkCardSaid : Prop := Claim7.holds Tryd.pinned (.plain (OpenSpec.ofChange fnExactCodeOkSpec)) fnExactCodeOkCard

/-- THE TIED CARD OF 'laws.FnExactShapeOk'. -/
def fnExactShapeOkCard : Claim7 := { stood := { row := fnExactShapeOkRow, standIns := [], harness := (true, "66f247f7c3762a799480b40726371a310a5c0205b0b65f88a7eaf7c3bddfaf53"), looks := false }, kinds := [], alts := [], laidByText := true, laidKinds := [.listed, .data], laidTests := true, laidLooks := .later }
def FnExactShapeOkCardSaid : Prop := Claim7.holds Tryd.pinned (.plain (OpenSpec.ofChange fnExactShapeOkSpec)) fnExactShapeOkCard

/-- THE TIED CARD OF 'laws.FnExactTreeOf'. -/
def fnExactTreeOfCard : Claim7 := { stood := { row := fnExactTreeOfRow, standIns := [], harness := (true, "66f247f7c3762a799480b40726371a310a5c0205b0b65f88a7eaf7c3bddfaf53"), looks := false }, kinds := [], alts := [], laidByText := true, laidKinds := [.listed, .data], laidTests := true, laidLooks := .later }
def FnExactTreeOfCardSaid : Prop := Claim7.holds Tryd.pinned (.plain (OpenSpec.ofChange fnExactTreeOfSpec)) fnExactTreeOfCard

/-- THE TIED CARD OF 'laws.FnThen'. -/
def fnThenCard : Claim7 := { stood := { row := fnThenRow, standIns := [], harness := (true, "66f247f7c3762a799480b40726371a310a5c0205b0b65f88a7eaf7c3bddfaf53"), looks := false }, kinds := [], alts := [], laidByText := true, laidKinds := [.listed, .data], laidTests := true, laidLooks := .later }
def FnThenCardSaid : Prop := Claim7.holds Tryd.pinned (.plain (OpenSpec.ofChange fnThenSpec)) fnThenCard

/-- THE SECOND FORM's CARD OF 'laws.FnExactPrimName'. -/
def fnExactPrimNameUptoCard : Claim7 := { stood := { row := fnExactPrimNameUptoRow, standIns := [], harness := (true, "66f247f7c3762a799480b40726371a310a5c0205b0b65f88a7eaf7c3bddfaf53"), looks := false }, kinds := [], alts := [], laidByText := true, laidKinds := [.listed, .data], laidTests := true, laidLooks := .later }
def FnExactPrimNameUptoCardSaid : Prop := Claim7.holds Tryd.pinned (.plain (OpenSpec.upto fnExactPrimNameSpec)) fnExactPrimNameUptoCard

/-- THE SECOND FORM's CARD OF 'laws.FnExactPrimOf'. -/
def fnExactPrimOfUptoCard : Claim7 := { stood := { row := fnExactPrimOfUptoRow, standIns := [], harness := (true, "66f247f7c3762a799480b40726371a310a5c0205b0b65f88a7eaf7c3bddfaf53"), looks := false }, kinds := [], alts := [], laidByText := true, laidKinds := [.listed, .data], laidTests := true, laidLooks := .later }
def FnExactPrimOfUptoCardSaid : Prop := Claim7.holds Tryd.pinned (.plain (OpenSpec.upto fnExactPrimOfSpec)) fnExactPrimOfUptoCard

/-- THE SECOND FORM's CARD OF 'laws.FnExactEffectText'. -/
def fnExactEffectTextUptoCard : Claim7 := { stood := { row := fnExactEffectTextUptoRow, standIns := [], harness := (true, "66f247f7c3762a799480b40726371a310a5c0205b0b65f88a7eaf7c3bddfaf53"), looks := false }, kinds := [], alts := [], laidByText := true, laidKinds := [.data, .data, .data], laidTests := true, laidLooks := .later }
def FnExactEffectTextUptoCardSaid : Prop := Claim7.holds Tryd.pinned (.plain (OpenSpec.upto fnExactEffectTextSpec)) fnExactEffectTextUptoCard

/-- THE SECOND FORM's CARD OF 'laws.FnExactPrimEffect'. -/
def fnExactPrimEffectUptoCard : Claim7 := { stood := { row := fnExactPrimEffectUptoRow, standIns := [], harness := (true, "66f247f7c3762a799480b40726371a310a5c0205b0b65f88a7eaf7c3bddfaf53"), looks := false }, kinds := [], alts := [], laidByText := true, laidKinds := [.listed, .data], laidTests := true, laidLooks := .later }
def FnExactPrimEffectUptoCardSaid : Prop := Claim7.holds Tryd.pinned (.plain (OpenSpec.upto fnExactPrimEffectSpec)) fnExactPrimEffectUptoCard

/-- THE SECOND FORM's CARD OF 'laws.FnExactCodeOk'. -/
def fnExactCodeOkUptoCard : Claim7 := { stood := { row := fnExactCodeOkUptoRow, standIns := [], harness := (true, "66f247f7c3762a799480b40726371a310a5c0205b0b65f88a7eaf7c3bddfaf53"), looks := false }, kinds := [], alts := [], laidByText := true, laidKinds := [.listed, .data], laidTests := true, laidLooks := .later }
def FnExactCodeOkUptoCardSaid : Prop := Claim7.holds Tryd.pinned (.plain (OpenSpec.upto fnExactCodeOkSpec)) fnExactCodeOkUptoCard

/-- THE SECOND FORM's CARD OF 'laws.FnExactShapeOk'. -/
def fnExactShapeOkUptoCard : Claim7 := { stood := { row := fnExactShapeOkUptoRow, standIns := [], harness := (true, "66f247f7c3762a799480b40726371a310a5c0205b0b65f88a7eaf7c3bddfaf53"), looks := false }, kinds := [], alts := [], laidByText := true, laidKinds := [.listed, .data], laidTests := true, laidLooks := .later }
def FnExactShapeOkUptoCardSaid : Prop := Claim7.holds Tryd.pinned (.plain (OpenSpec.upto fnExactShapeOkSpec)) fnExactShapeOkUptoCard

/-- THE SECOND FORM's CARD OF 'laws.FnExactTreeOf'. -/
def fnExactTreeOfUptoCard : Claim7 := { stood := { row := fnExactTreeOfUptoRow, standIns := [], harness := (true, "66f247f7c3762a799480b40726371a310a5c0205b0b65f88a7eaf7c3bddfaf53"), looks := false }, kinds := [], alts := [], laidByText := true, laidKinds := [.listed, .data], laidTests := true, laidLooks := .later }
def FnExactTreeOfUptoCardSaid : Prop := Claim7.holds Tryd.pinned (.plain (OpenSpec.upto fnExactTreeOfSpec)) fnExactTreeOfUptoCard

/-- THE SECOND FORM's CARD OF 'laws.FnThen'. -/
def fnThenUptoCard : Claim7 := { stood := { row := fnThenUptoRow, standIns := [], harness := (true, "66f247f7c3762a799480b40726371a310a5c0205b0b65f88a7eaf7c3bddfaf53"), looks := false }, kinds := [], alts := [], laidByText := true, laidKinds := [.listed, .data], laidTests := true, laidLooks := .later }
def FnThenUptoCardSaid : Prop := Claim7.holds Tryd.pinned (.plain (OpenSpec.upto fnThenSpec)) fnThenUptoCard
end Rows
end Go.Proofs.YtighjodalmdapaaDoor
