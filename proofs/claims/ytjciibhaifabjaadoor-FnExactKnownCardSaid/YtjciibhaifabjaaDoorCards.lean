/-
  DERIVED. GIVEN WITH THE SEED: THE CARDS: each row of YtjciibhaifabjaaDoorRows.lean that lists a variable, with what it lists TIED to the program's text (the seventh form; the later family's looks); each row that meets fmt, with fmt's text TOLD by the authors' own Lean function (tested against real Go, not proved from fmt's source: count such statements apart). THE CARD IS WHAT COUNTS. Prove the row's statement (the work); the ties are given (YtjciibhaifabjaaDoorTie.lean); close each card by the builder's one call (the guide's Derived/Test/ToyasCard.lean, 'card_holds'). Laid BY PROGRAM, IN A SANDBOX (cutbox-door.mjs). By AI agents, Wed Nov 11 2026. No macro, syntax, notation, axiom, sorry.
-/
import Derived.Test.YtjciibhaifabjaaDoorRows
import GoSem.ClaimSeven
namespace Go.Proofs.YtjciibhaifabjaaDoor
namespace Rows

/-- THE TIED CARD OF 'laws.FnExactStart'. -/
def fnExactStartCard : Claim7 := { stood := { row := fnExactStartRow, standIns := [], harness := (true, "8de9163876c6cd85e4711779d893fc777592af77c3f41f63df838f7d73b779fc"), looks := false }, kinds := [], alts := [], laidByText := true, laidKinds := [.listed, .data], laidTests := true, laidLooks := .later }
def FnExactStartCardSaid : Prop := Claim7.holds Tryd.pinned (.plain (OpenSpec.ofChange fnExactStartSpec)) fnExactStartCard

/-- THE TIED CARD OF 'laws.FnExactWorldOk'. -/
def fnExactWorldOkCard : Claim7 := { stood := { row := fnExactWorldOkRow, standIns := [], harness := (true, "8de9163876c6cd85e4711779d893fc777592af77c3f41f63df838f7d73b779fc"), looks := false }, kinds := [], alts := [], laidByText := true, laidKinds := [.listed, .data], laidTests := true, laidLooks := .later }
def FnExactWorldOkCardSaid : Prop := Claim7.holds Tryd.pinned (.plain (OpenSpec.ofChange fnExactWorldOkSpec)) fnExactWorldOkCard

/-- THE TIED CARD OF 'laws.FnExactKnown'. -/
def fnExactKnownCard : Claim7 := { stood := { row := fnExactKnownRow, standIns := [], harness := (true, "8de9163876c6cd85e4711779d893fc777592af77c3f41f63df838f7d73b779fc"), looks := false }, kinds := [], alts := [], laidByText := true, laidKinds := [.listed, .data], laidTests := true, laidLooks := .later }
def FnExactKnownCardSaid : Prop := Claim7.holds Tryd.pinned (.plain (OpenSpec.ofChange fnExactKnownSpec)) fnExactKnownCard

/-- THE SECOND FORM's CARD OF 'laws.FnExactStart'. -/
def fnExactStartUptoCard : Claim7 := { stood := { row := fnExactStartUptoRow, standIns := [], harness := (true, "8de9163876c6cd85e4711779d893fc777592af77c3f41f63df838f7d73b779fc"), looks := false }, kinds := [], alts := [], laidByText := true, laidKinds := [.listed, .data], laidTests := true, laidLooks := .later }
def FnExactStartUptoCardSaid : Prop := Claim7.holds Tryd.pinned (.plain (OpenSpec.upto fnExactStartSpec)) fnExactStartUptoCard

/-- THE SECOND FORM's CARD OF 'laws.FnExactWorldOk'. -/
def fnExactWorldOkUptoCard : Claim7 := { stood := { row := fnExactWorldOkUptoRow, standIns := [], harness := (true, "8de9163876c6cd85e4711779d893fc777592af77c3f41f63df838f7d73b779fc"), looks := false }, kinds := [], alts := [], laidByText := true, laidKinds := [.listed, .data], laidTests := true, laidLooks := .later }
def FnExactWorldOkUptoCardSaid : Prop := Claim7.holds Tryd.pinned (.plain (OpenSpec.upto fnExactWorldOkSpec)) fnExactWorldOkUptoCard

/-- THE SECOND FORM's CARD OF 'laws.FnExactKnown'. -/
def fnExactKnownUptoCard : Claim7 := { stood := { row := fnExactKnownUptoRow, standIns := [], harness := (true, "8de9163876c6cd85e4711779d893fc777592af77c3f41f63df838f7d73b779fc"), looks := false }, kinds := [], alts := [], laidByText := true, laidKinds := [.listed, .data], laidTests := true, laidLooks := .later }
def FnExactKnownUptoCardSaid : Prop := Claim7.holds Tryd.pinned (.plain (OpenSpec.upto fnExactKnownSpec)) fnExactKnownUptoCard
end Rows
end Go.Proofs.YtjciibhaifabjaaDoor
