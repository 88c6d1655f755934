/-
  DERIVED. GIVEN WITH THE SEED: THE CARDS: each row of YtmanjfdchhipmaaGreatDoorRows.lean that lists a variable, with what it lists TIED to the program's text (the seventh form; the later family's looks); each row that meets fmt, with fmt's text TOLD by the authors' own Lean function (tested against real Go, not proved from fmt's source: count such statements apart). THE CARD IS WHAT COUNTS. Prove the row's statement (the work); the ties are given (YtmanjfdchhipmaaGreatDoorTie.lean); close each card by the builder's one call (the guide's Derived/Test/ToyasCard.lean, 'card_holds'). Laid BY PROGRAM, IN A SANDBOX (cutbox-door.mjs). By AI agents, Wed Nov 11 2026. No macro, syntax, notation, axiom, sorry.
-/
import Derived.Test.YtmanjfdchhipmaaGreatDoorRows
import GoSem.ClaimSeven
namespace Go.Proofs.YtmanjfdchhipmaaGreatDoor
namespace Rows

/-- THE TIED CARD OF 'laws.FnBestWithin'. -/
def fnBestWithinCard : Claim7 := { stood := { row := fnBestWithinRow, standIns := [], harness := (true, "84e3d24a3abd455106f569e2a81f46326c7c33570b1ca8dee2ef52ff90f5c943"), looks := false }, kinds := [], alts := [], laidByText := true, laidKinds := [.data, .pinned], laidTests := true, laidLooks := .later }
def FnBestWithinCardSaid : Prop := Claim7.holds Tryz.pinned (.plain (OpenSpec.ofChange fnBestWithinSpec)) fnBestWithinCard

/-- THE TIED CARD OF 'laws.FnWordsDecided'. -/
def fnWordsDecidedCard : Claim7 := { stood := { row := fnWordsDecidedRow, standIns := [], harness := (true, "84e3d24a3abd455106f569e2a81f46326c7c33570b1ca8dee2ef52ff90f5c943"), looks := false }, kinds := [], alts := [], laidByText := true, laidKinds := [.data, .pinned], laidTests := true, laidLooks := .later }
def FnWordsDecidedCardSaid : Prop := Claim7.holds Tryz.pinned (.plain (OpenSpec.ofChange fnWordsDecidedSpec)) fnWordsDecidedCard

/-- THE SECOND FORM's CARD OF 'laws.FnBestWithin'. -/
def fnBestWithinUptoCard : Claim7 := { stood := { row := fnBestWithinUptoRow, standIns := [], harness := (true, "84e3d24a3abd455106f569e2a81f46326c7c33570b1ca8dee2ef52ff90f5c943"), looks := false }, kinds := [], alts := [], laidByText := true, laidKinds := [.data, .pinned], laidTests := true, laidLooks := .later }
def FnBestWithinUptoCardSaid : Prop := Claim7.holds Tryz.pinned (.plain (OpenSpec.upto fnBestWithinSpec)) fnBestWithinUptoCard

/-- THE SECOND FORM's CARD OF 'laws.FnWordsDecided'. -/
def fnWordsDecidedUptoCard : Claim7 := { stood := { row := fnWordsDecidedUptoRow, standIns := [], harness := (true, "84e3d24a3abd455106f569e2a81f46326c7c33570b1ca8dee2ef52ff90f5c943"), looks := false }, kinds := [], alts := [], laidByText := true, laidKinds := [.data, .pinned], laidTests := true, laidLooks := .later }
def FnWordsDecidedUptoCardSaid : Prop := Claim7.holds Tryz.pinned (.plain (OpenSpec.upto fnWordsDecidedSpec)) fnWordsDecidedUptoCard
end Rows
end Go.Proofs.YtmanjfdchhipmaaGreatDoor
