/-
  DERIVED. GIVEN WITH THE SEED: THE CARDS: each row of YthlldokmjpfilaaDoorRows.lean that lists a variable, with what it lists TIED to the program's text (the seventh form; the later family's looks); each row that meets fmt, with fmt's text TOLD by the authors' own Lean function (tested against real Go, not proved from fmt's source: count such statements apart). THE CARD IS WHAT COUNTS. Prove the row's statement (the work); the ties are given (YthlldokmjpfilaaDoorTie.lean); close each card by the builder's one call (the guide's Derived/Test/ToyasCard.lean, 'card_holds'). Laid BY PROGRAM, IN A SANDBOX (cutbox-door.mjs). By AI agents, Wed Nov 11 2026. No macro, syntax, notation, axiom, sorry.
-/
import Derived.Test.YthlldokmjpfilaaDoorRows
import GoSem.ClaimSeven
namespace Go.Proofs.YthlldokmjpfilaaDoor
namespace Rows

/-- THE TIED CARD OF 'laws.FnExactPrefixAlike'. -/
def fnExactPrefixAlikeCard : Claim7 := { stood := { row := fnExactPrefixAlikeRow, standIns := [], harness := (true, "ada9e74dc495cfc251b5848928d4a09e70c29ebb1f6746c631816a3e6bac7842"), looks := false }, kinds := [], alts := [], laidByText := true, laidKinds := [.data, .pinned], laidTests := true, laidLooks := .later }
def FnExactPrefixAlikeCardSaid : Prop := Claim7.holds Tryd.pinned (.plain (OpenSpec.ofChange fnExactPrefixAlikeSpec)) fnExactPrefixAlikeCard

/-- THE SECOND FORM's CARD OF 'laws.FnExactPrefixAlike'. -/
def fnExactPrefixAlikeUptoCard : Claim7 := { stood := { row := fnExactPrefixAlikeUptoRow, standIns := [], harness := (true, "ada9e74dc495cfc251b5848928d4a09e70c29ebb1f6746c631816a3e6bac7842"), looks := false }, kinds := [], alts := [], laidByText := true, laidKinds := [.data, .pinned], laidTests := true, laidLooks := .later }
def FnExactPrefixAlikeUptoCardSaid : Prop := Claim7.holds Tryd.pinned (.plain (OpenSpec.upto fnExactPrefixAlikeSpec)) fnExactPrefixAlikeUptoCard
end Rows
end Go.Proofs.YthlldokmjpfilaaDoor
