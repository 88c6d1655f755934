/-
  DERIVED. GIVEN WITH THE SEED: THE CARDS: each row of YtfmkhjoelcbnnaaDoorRows.lean that lists a variable, with what it lists TIED to the program's text (the seventh form; the later family's looks); each row that meets fmt, with fmt's text TOLD by the authors' own Lean function (tested against real Go, not proved from fmt's source: count such statements apart). THE CARD IS WHAT COUNTS. Prove the row's statement (the work); the ties are given (YtfmkhjoelcbnnaaDoorTie.lean); close each card by the builder's one call (the guide's Derived/Test/ToyasCard.lean, 'card_holds'). Laid BY PROGRAM, IN A SANDBOX (cutbox-door.mjs). By AI agents, Wed Nov 11 2026. No macro, syntax, notation, axiom, sorry.
-/
import Derived.Test.YtfmkhjoelcbnnaaDoorRows
import GoSem.ClaimSeven
namespace Go.Proofs.YtfmkhjoelcbnnaaDoor
namespace Rows

/-- THE TIED CARD OF 'laws.FnExactCountByLetters'. -/
def fnExactCountByLettersCard : Claim7 := { stood := { row := fnExactCountByLettersRow, standIns := [], harness := (true, "60cdb7afb72308526c9d780481745e3214194e20242409e8c9dca1ee0ccf9d33"), looks := false }, kinds := [], alts := [], laidByText := true, laidKinds := [.data, .pinned], laidTests := true, laidLooks := .later }
def FnExactCountByLettersCardSaid : Prop := Claim7.holds Tryd.pinned (.plain (OpenSpec.ofChange fnExactCountByLettersSpec)) fnExactCountByLettersCard

/-- THE TIED CARD OF 'laws.FnExactAreLetterAlike'. -/
def fnExactAreLetterAlikeCard : Claim7 := { stood := { row := fnExactAreLetterAlikeRow, standIns := [], harness := (true, "60cdb7afb72308526c9d780481745e3214194e20242409e8c9dca1ee0ccf9d33"), looks := false }, kinds := [], alts := [], laidByText := true, laidKinds := [.data, .pinned], laidTests := true, laidLooks := .later }
def FnExactAreLetterAlikeCardSaid : Prop := Claim7.holds Tryd.pinned (.plain (OpenSpec.ofChange fnExactAreLetterAlikeSpec)) fnExactAreLetterAlikeCard

/-- THE TIED CARD OF 'laws.FnExactPrefixAlike'. -/
def fnExactPrefixAlikeCard : Claim7 := { stood := { row := fnExactPrefixAlikeRow, standIns := [], harness := (true, "60cdb7afb72308526c9d780481745e3214194e20242409e8c9dca1ee0ccf9d33"), looks := false }, kinds := [], alts := [], laidByText := true, laidKinds := [.data, .pinned], laidTests := true, laidLooks := .later }
def FnExactPrefixAlikeCardSaid : Prop := Claim7.holds Tryd.pinned (.plain (OpenSpec.ofChange fnExactPrefixAlikeSpec)) fnExactPrefixAlikeCard

/-- THE SECOND FORM's CARD OF 'laws.FnExactCountByLetters'. -/
def fnExactCountByLettersUptoCard : Claim7 := { stood := { row := fnExactCountByLettersUptoRow, standIns := [], harness := (true, "60cdb7afb72308526c9d780481745e3214194e20242409e8c9dca1ee0ccf9d33"), looks := false }, kinds := [], alts := [], laidByText := true, laidKinds := [.data, .pinned], laidTests := true, laidLooks := .later }
def FnExactCountByLettersUptoCardSaid : Prop := Claim7.holds Tryd.pinned (.plain (OpenSpec.upto fnExactCountByLettersSpec)) fnExactCountByLettersUptoCard

/-- THE SECOND FORM's CARD OF 'laws.FnExactAreLetterAlike'. -/
def fnExactAreLetterAlikeUptoCard : Claim7 := { stood := { row := fnExactAreLetterAlikeUptoRow, standIns := [], harness := (true, "60cdb7afb72308526c9d780481745e3214194e20242409e8c9dca1ee0ccf9d33"), looks := false }, kinds := [], alts := [], laidByText := true, laidKinds := [.data, .pinned], laidTests := true, laidLooks := .later }
def FnExactAreLetterAlikeUptoCardSaid : Prop := Claim7.holds Tryd.pinned (.plain (OpenSpec.upto fnExactAreLetterAlikeSpec)) fnExactAreLetterAlikeUptoCard

/-- THE SECOND FORM's CARD OF 'laws.FnExactPrefixAlike'. -/
def fnExactPrefixAlikeUptoCard : Claim7 := { stood := { row := fnExactPrefixAlikeUptoRow, standIns := [], harness := (true, "60cdb7afb72308526c9d780481745e3214194e20242409e8c9dca1ee0ccf9d33"), looks := false }, kinds := [], alts := [], laidByText := true, laidKinds := [.data, .pinned], laidTests := true, laidLooks := .later }
def FnExactPrefixAlikeUptoCardSaid : Prop := Claim7.holds Tryd.pinned (.plain (OpenSpec.upto fnExactPrefixAlikeSpec)) fnExactPrefixAlikeUptoCard
end Rows
end Go.Proofs.YtfmkhjoelcbnnaaDoor
