/-
  DERIVED. GIVEN WITH THE SEED: THE CARDS: each row of YtgljbcdlldhlfaaDoorRows.lean that lists a variable, with what it lists TIED to the program's text (the seventh form; the later family's looks); each row that meets fmt, with fmt's text TOLD by the authors' own Lean function (tested against real Go, not proved from fmt's source: count such statements apart). THE CARD IS WHAT COUNTS. Prove the row's statement (the work); the ties are given (YtgljbcdlldhlfaaDoorTie.lean); close each card by the builder's one call (the guide's Derived/Test/ToyasCard.lean, 'card_holds'). Laid BY PROGRAM, IN A SANDBOX (cutbox-door.mjs). By AI agents, Wed Nov 11 2026. No macro, syntax, notation, axiom, sorry.
-/
import Derived.Test.YtgljbcdlldhlfaaDoorRows
import GoSem.ClaimSeven
namespace Go.Proofs.YtgljbcdlldhlfaaDoor
namespace Rows

/-- THE TIED CARD OF 'laws.FnExactDo'. -/
def fnExactDoCard : Claim7 := { stood := { row := fnExactDoRow, standIns := [], harness := (true, "f6139a6058fc79664b4570eaaa4b5f713faa55a1764d40ad4491aae197186aa9"), looks := false }, kinds := [], alts := [], laidByText := true, laidKinds := [.data, .data, .data, .listed, .data], laidTests := true, laidLooks := .later }
def FnExactDoCardSaid : Prop := Claim7.holds Tryd.pinned (.plain (OpenSpec.ofChange fnExactDoSpec)) fnExactDoCard

/-- THE TIED CARD OF 'laws.FnStores'. -/
def fnStoresCard : Claim7 := { stood := { row := fnStoresRow, standIns := [], harness := (true, "f6139a6058fc79664b4570eaaa4b5f713faa55a1764d40ad4491aae197186aa9"), looks := false }, kinds := [], alts := [], laidByText := true, laidKinds := [.data, .data, .data, .listed, .data], laidTests := true, laidLooks := .later }
def FnStoresCardSaid : Prop := Claim7.holds Tryd.pinned (.plain (OpenSpec.ofChange fnStoresSpec)) fnStoresCard

/-- THE TIED CARD OF 'laws.FnGain'. -/
def fnGainCard : Claim7 := { stood := { row := fnGainRow, standIns := [], harness := (true, "f6139a6058fc79664b4570eaaa4b5f713faa55a1764d40ad4491aae197186aa9"), looks := false }, kinds := [], alts := [], laidByText := true, laidKinds := [.data, .data, .data, .listed, .data], laidTests := true, laidLooks := .later }
def FnGainCardSaid : Prop := Claim7.holds Tryd.pinned (.plain (OpenSpec.ofChange fnGainSpec)) fnGainCard

/-- THE SECOND FORM's CARD OF 'laws.FnExactDo'. -/
def fnExactDoUptoCard : Claim7 := { stood := { row := fnExactDoUptoRow, standIns := [], harness := (true, "f6139a6058fc79664b4570eaaa4b5f713faa55a1764d40ad4491aae197186aa9"), looks := false }, kinds := [], alts := [], laidByText := true, laidKinds := [.data, .data, .data, .listed, .data], laidTests := true, laidLooks := .later }
def FnExactDoUptoCardSaid : Prop := Claim7.holds Tryd.pinned (.plain (OpenSpec.upto fnExactDoSpec)) fnExactDoUptoCard

/-- THE SECOND FORM's CARD OF 'laws.FnStores'. -/
def fnStoresUptoCard : Claim7 := { stood := { row := fnStoresUptoRow, standIns := [], harness := (true, "f6139a6058fc79664b4570eaaa4b5f713faa55a1764d40ad4491aae197186aa9"), looks := false }, kinds := [], alts := [], laidByText := true, laidKinds := [.data, .data, .data, .listed, .data], laidTests := true, laidLooks := .later }
def FnStoresUptoCardSaid : Prop := Claim7.holds Tryd.pinned (.plain (OpenSpec.upto fnStoresSpec)) fnStoresUptoCard

/-- THE SECOND FORM's CARD OF 'laws.FnGain'. -/
def fnGainUptoCard : Claim7 := { stood := { row := fnGainUptoRow, standIns := [], harness := (true, "f6139a6058fc79664b4570eaaa4b5f713faa55a1764d40ad4491aae197186aa9"), looks := false }, kinds := [], alts := [], laidByText := true, laidKinds := [.data, .data, .data, .listed, .data], laidTests := true, laidLooks := .later }
def FnGainUptoCardSaid : Prop := Claim7.holds Tryd.pinned (.plain (OpenSpec.upto fnGainSpec)) fnGainUptoCard
end Rows
end Go.Proofs.YtgljbcdlldhlfaaDoor
