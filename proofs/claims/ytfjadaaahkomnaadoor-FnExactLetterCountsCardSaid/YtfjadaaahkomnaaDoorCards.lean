/-
  DERIVED. GIVEN WITH THE SEED: THE CARDS: each row of YtfjadaaahkomnaaDoorRows.lean that lists a variable, with what it lists TIED to the program's text (the seventh form; the later family's looks); each row that meets fmt, with fmt's text TOLD by the authors' own Lean function (tested against real Go, not proved from fmt's source: count such statements apart). THE CARD IS WHAT COUNTS. Prove the row's statement (the work); the ties are given (YtfjadaaahkomnaaDoorTie.lean); close each card by the builder's one call (the guide's Derived/Test/ToyasCard.lean, 'card_holds'). Laid BY PROGRAM, IN A SANDBOX (cutbox-door.mjs). By AI agents, Wed Nov 11 2026. No macro, syntax, notation, axiom, sorry.
-/
import Derived.Test.YtfjadaaahkomnaaDoorRows
import GoSem.ClaimSeven
namespace Go.Proofs.YtfjadaaahkomnaaDoor
namespace Rows

/-- THE TIED CARD OF 'laws.FnExactLetterCounts'. -/
def fnExactLetterCountsCard : Claim7 := { stood := { row := fnExactLetterCountsRow, standIns := [], harness := (true, "a995abf8ad68820b61e66f84fcfe3508df0b8aa326eb68985d2a81c09294b6ee"), looks := false }, kinds := [], alts := [], laidByText := true, laidKinds := [.data, .pinned], laidTests := true, laidLooks := .later }
def FnExactLetterCountsCardSaid : Prop := Claim7.holds Tryd.pinned (.plain (OpenSpec.ofChange fnExactLetterCountsSpec)) fnExactLetterCountsCard

/-- THE TIED CARD OF 'laws.FnExactCountByLetters'. -/
def fnExactCountByLettersCard : Claim7 := { stood := { row := fnExactCountByLettersRow, standIns := [], harness := (true, "a995abf8ad68820b61e66f84fcfe3508df0b8aa326eb68985d2a81c09294b6ee"), looks := false }, kinds := [], alts := [], laidByText := true, laidKinds := [.data, .pinned], laidTests := true, laidLooks := .later }
def FnExactCountByLettersCardSaid : Prop := Claim7.holds Tryd.pinned (.plain (OpenSpec.ofChange fnExactCountByLettersSpec)) fnExactCountByLettersCard

/-- THE TIED CARD OF 'laws.FnExactPrefixAlike'. -/
def fnExactPrefixAlikeCard : Claim7 := { stood := { row := fnExactPrefixAlikeRow, standIns := [], harness := (true, "a995abf8ad68820b61e66f84fcfe3508df0b8aa326eb68985d2a81c09294b6ee"), looks := false }, kinds := [], alts := [], laidByText := true, laidKinds := [.data, .pinned], laidTests := true, laidLooks := .later }
def FnExactPrefixAlikeCardSaid : Prop := Claim7.holds Tryd.pinned (.plain (OpenSpec.ofChange fnExactPrefixAlikeSpec)) fnExactPrefixAlikeCard

/-- THE SECOND FORM's CARD OF 'laws.FnExactLetterCounts'. -/
def fnExactLetterCountsUptoCard : Claim7 := { stood := { row := fnExactLetterCountsUptoRow, standIns := [], harness := (true, "a995abf8ad68820b61e66f84fcfe3508df0b8aa326eb68985d2a81c09294b6ee"), looks := false }, kinds := [], alts := [], laidByText := true, laidKinds := [.data, .pinned], laidTests := true, laidLooks := .later }
def FnExactLetterCountsUptoCardSaid : Prop := Claim7.holds Tryd.pinned (.plain (OpenSpec.upto fnExactLetterCountsSpec)) fnExactLetterCountsUptoCard

/-- THE SECOND FORM's CARD OF 'laws.FnExactCountByLetters'. -/
def fnExactCountByLettersUptoCard : Claim7 := { stood := { row := fnExactCountByLettersUptoRow, standIns := [], harness := (true, "a995abf8ad68820b61e66f84fcfe3508df0b8aa326eb68985d2a81c09294b6ee"), looks := false }, kinds := [], alts := [], laidByText := true, laidKinds := [.data, .pinned], laidTests := true, laidLooks := .later }
def FnExactCountByLettersUptoCardSaid : Prop := Claim7.holds Tryd.pinned (.plain (OpenSpec.upto fnExactCountByLettersSpec)) fnExactCountByLettersUptoCard

/-- THE SECOND FORM's CARD OF 'laws.FnExactPrefixAlike'. -/
def fnExactPrefixAlikeUptoCard : Claim7 := { stood := { row := fnExactPrefixAlikeUptoRow, standIns := [], harness := (true, "a995abf8ad68820b61e66f84fcfe3508df0b8aa326eb68985d2a81c09294b6ee"), looks := false }, kinds := [], alts := [], laidByText := true, laidKinds := [.data, .pinned], laidTests := true, laidLooks := .later }
def FnExactPrefixAlikeUptoCardSaid : Prop := Claim7.holds Tryd.pinned (.plain (OpenSpec.upto fnExactPrefixAlikeSpec)) fnExactPrefixAlikeUptoCard
end Rows
end Go.Proofs.YtfjadaaahkomnaaDoor
