/-
  DERIVED. GIVEN WITH THE SEED: THE CARDS: each row of YtahemjedodecgaaDoorRows.lean that lists a variable, with what it lists TIED to the program's text (the seventh form; the later family's looks); each row that meets fmt, with fmt's text TOLD by the authors' own Lean function (tested against real Go, not proved from fmt's source: count such statements apart). THE CARD IS WHAT COUNTS. Prove the row's statement (the work); the ties are given (YtahemjedodecgaaDoorTie.lean); close each card by the builder's one call (the guide's Derived/Test/ToyasCard.lean, 'card_holds'). Laid BY PROGRAM, IN A SANDBOX (cutbox-door.mjs). By AI agents, Wed Nov 11 2026. No macro, syntax, notation, axiom, sorry.
-/
import Derived.Test.YtahemjedodecgaaDoorRows
import GoSem.ClaimSeven
namespace Go.Proofs.YtahemjedodecgaaDoor
namespace Rows

/-- THE TIED CARD OF 'laws.FnWordsCompared'. -/
def fnWordsComparedCard : Claim7 := { stood := { row := fnWordsComparedRow, standIns := [], harness := (true, "e4e5ca890364f1c272b598891f73b78fa836df12b6963fef5180b69d4e04a834"), looks := false }, kinds := [], alts := [], laidByText := true, laidKinds := [.data, .pinned], laidTests := true, laidLooks := .later }
def FnWordsComparedCardSaid : Prop := Claim7.holds Tryd.pinned (.plain (OpenSpec.ofChange fnWordsComparedSpec)) fnWordsComparedCard

/-- THE SECOND FORM's CARD OF 'laws.FnWordsCompared'. -/
def fnWordsComparedUptoCard : Claim7 := { stood := { row := fnWordsComparedUptoRow, standIns := [], harness := (true, "e4e5ca890364f1c272b598891f73b78fa836df12b6963fef5180b69d4e04a834"), looks := false }, kinds := [], alts := [], laidByText := true, laidKinds := [.data, .pinned], laidTests := true, laidLooks := .later }
def FnWordsComparedUptoCardSaid : Prop := Claim7.holds Tryd.pinned (.plain (OpenSpec.upto fnWordsComparedSpec)) fnWordsComparedUptoCard
end Rows
end Go.Proofs.YtahemjedodecgaaDoor
