/-
  DERIVED. GIVEN WITH THE SEED: THE CARDS: each row of YtkefjfpjnghkdaaDoorRows.lean that lists a variable, with what it lists TIED to the program's text (the seventh form; the later family's looks); each row that meets fmt, with fmt's text TOLD by the authors' own Lean function (tested against real Go, not proved from fmt's source: count such statements apart). THE CARD IS WHAT COUNTS. Prove the row's statement (the work); the ties are given (YtkefjfpjnghkdaaDoorTie.lean); close each card by the builder's one call (the guide's Derived/Test/ToyasCard.lean, 'card_holds'). Laid BY PROGRAM, IN A SANDBOX (cutbox-door.mjs). By AI agents, Wed Nov 11 2026. No macro, syntax, notation, axiom, sorry.
-/
import Derived.Test.YtkefjfpjnghkdaaDoorRows
import GoSem.ClaimSeven
namespace Go.Proofs.YtkefjfpjnghkdaaDoor
namespace Rows

/-- THE TIED CARD OF 'laws.FnExactMeanLength'. -/
def fnExactMeanLengthCard : Claim7 := { stood := { row := fnExactMeanLengthRow, standIns := [], harness := (true, "b0df3ec5e4df374002d4008fd18445ceb2261c3ea2934787f8bfa2848c450467"), looks := false }, kinds := [], alts := [], laidByText := true, laidKinds := [.data, .pinned], laidTests := true, laidLooks := .later }
def FnExactMeanLengthCardSaid : Prop := Claim7.holds Tryd.pinned (.plain (OpenSpec.ofChange fnExactMeanLengthSpec)) fnExactMeanLengthCard

/-- THE TIED CARD OF 'laws.FnExactWeightedSum'. -/
def fnExactWeightedSumCard : Claim7 := { stood := { row := fnExactWeightedSumRow, standIns := [], harness := (true, "b0df3ec5e4df374002d4008fd18445ceb2261c3ea2934787f8bfa2848c450467"), looks := false }, kinds := [], alts := [], laidByText := true, laidKinds := [.data, .pinned], laidTests := true, laidLooks := .later }
def FnExactWeightedSumCardSaid : Prop := Claim7.holds Tryd.pinned (.plain (OpenSpec.ofChange fnExactWeightedSumSpec)) fnExactWeightedSumCard

/-- THE TIED CARD OF 'laws.FnExactFirstTooHeavy'. -/
def fnExactFirstTooHeavyCard : Claim7 := { stood := { row := fnExactFirstTooHeavyRow, standIns := [], harness := (true, "b0df3ec5e4df374002d4008fd18445ceb2261c3ea2934787f8bfa2848c450467"), looks := false }, kinds := [], alts := [], laidByText := true, laidKinds := [.data, .pinned], laidTests := true, laidLooks := .later }
def FnExactFirstTooHeavyCardSaid : Prop := Claim7.holds Tryd.pinned (.plain (OpenSpec.ofChange fnExactFirstTooHeavySpec)) fnExactFirstTooHeavyCard

/-- THE TIED CARD OF 'laws.FnExactDecidedWords'. -/
def fnExactDecidedWordsCard : Claim7 := { stood := { row := fnExactDecidedWordsRow, standIns := [], harness := (true, "b0df3ec5e4df374002d4008fd18445ceb2261c3ea2934787f8bfa2848c450467"), looks := false }, kinds := [], alts := [], laidByText := true, laidKinds := [.data, .pinned], laidTests := true, laidLooks := .later }
def FnExactDecidedWordsCardSaid : Prop := Claim7.holds Tryd.pinned (.plain (OpenSpec.ofChange fnExactDecidedWordsSpec)) fnExactDecidedWordsCard

/-- THE TIED CARD OF 'laws.FnExactLetterCounts'. -/
def fnExactLetterCountsCard : Claim7 := { stood := { row := fnExactLetterCountsRow, standIns := [], harness := (true, "b0df3ec5e4df374002d4008fd18445ceb2261c3ea2934787f8bfa2848c450467"), looks := false }, kinds := [], alts := [], laidByText := true, laidKinds := [.data, .pinned], laidTests := true, laidLooks := .later }
def FnExactLetterCountsCardSaid : Prop := Claim7.holds Tryd.pinned (.plain (OpenSpec.ofChange fnExactLetterCountsSpec)) fnExactLetterCountsCard

/-- THE TIED CARD OF 'laws.FnExactCountByLetters'. -/
def fnExactCountByLettersCard : Claim7 := { stood := { row := fnExactCountByLettersRow, standIns := [], harness := (true, "b0df3ec5e4df374002d4008fd18445ceb2261c3ea2934787f8bfa2848c450467"), looks := false }, kinds := [], alts := [], laidByText := true, laidKinds := [.data, .pinned], laidTests := true, laidLooks := .later }
def FnExactCountByLettersCardSaid : Prop := Claim7.holds Tryd.pinned (.plain (OpenSpec.ofChange fnExactCountByLettersSpec)) fnExactCountByLettersCard

/-- THE SECOND FORM's CARD OF 'laws.FnExactMeanLength'. -/
def fnExactMeanLengthUptoCard : Claim7 := { stood := { row := fnExactMeanLengthUptoRow, standIns := [], harness := (true, "b0df3ec5e4df374002d4008fd18445ceb2261c3ea2934787f8bfa2848c450467"), looks := false }, kinds := [], alts := [], laidByText := true, laidKinds := [.data, .pinned], laidTests := true, laidLooks := .later }
def FnExactMeanLengthUptoCardSaid : Prop := Claim7.holds Tryd.pinned (.plain (OpenSpec.upto fnExactMeanLengthSpec)) fnExactMeanLengthUptoCard

/-- THE SECOND FORM's CARD OF 'laws.FnExactWeightedSum'. -/
def fnExactWeightedSumUptoCard : Claim7 := { stood := { row := fnExactWeightedSumUptoRow, standIns := [], harness := (true, "b0df3ec5e4df374002d4008fd18445ceb2261c3ea2934787f8bfa2848c450467"), looks := false }, kinds := [], alts := [], laidByText := true, laidKinds := [.data, .pinned], laidTests := true, laidLooks := .later }
def FnExactWeightedSumUptoCardSaid : Prop := Claim7.holds Tryd.pinned (.plain (OpenSpec.upto fnExactWeightedSumSpec)) fnExactWeightedSumUptoCard

/-- THE SECOND FORM's CARD OF 'laws.FnExactFirstTooHeavy'. -/
def fnExactFirstTooHeavyUptoCard : Claim7 := { stood := { row := fnExactFirstTooHeavyUptoRow, standIns := [], harness := (true, "b0df3ec5e4df374002d4008fd18445ceb2261c3ea2934787f8bfa2848c450467"), looks := false }, kinds := [], alts := [], laidByText := true, laidKinds := [.data, .pinned], laidTests := true, laidLooks := .later }
def FnExactFirstTooHeavyUptoCardSaid : Prop := Claim7.holds Tryd.pinned (.plain (OpenSpec.upto fnExactFirstTooHeavySpec)) fnExactFirstTooHeavyUptoCard

/-- THE SECOND FORM's CARD OF 'laws.FnExactDecidedWords'. -/
def fnExactDecidedWordsUptoCard : Claim7 := { stood := { row := fnExactDecidedWordsUptoRow, standIns := [], harness := (true, "b0df3ec5e4df374002d4008fd18445ceb2261c3ea2934787f8bfa2848c450467"), looks := false }, kinds := [], alts := [], laidByText := true, laidKinds := [.data, .pinned], laidTests := true, laidLooks := .later }
def FnExactDecidedWordsUptoCardSaid : Prop := Claim7.holds Tryd.pinned (.plain (OpenSpec.upto fnExactDecidedWordsSpec)) fnExactDecidedWordsUptoCard

/-- THE SECOND FORM's CARD OF 'laws.FnExactLetterCounts'. -/
def fnExactLetterCountsUptoCard : Claim7 := { stood := { row := fnExactLetterCountsUptoRow, standIns := [], harness := (true, "b0df3ec5e4df374002d4008fd18445ceb2261c3ea2934787f8bfa2848c450467"), looks := false }, kinds := [], alts := [], laidByText := true, laidKinds := [.data, .pinned], laidTests := true, laidLooks := .later }
def FnExactLetterCountsUptoCardSaid : Prop := Claim7.holds Tryd.pinned (.plain (OpenSpec.upto fnExactLetterCountsSpec)) fnExactLetterCountsUptoCard

/-- THE SECOND FORM's CARD OF 'laws.FnExactCountByLetters'. -/
def fnExactCountByLettersUptoCard : Claim7 := { stood := { row := fnExactCountByLettersUptoRow, standIns := [], harness := (true, "b0df3ec5e4df374002d4008fd18445ceb2261c3ea2934787f8bfa2848c450467"), looks := false }, kinds := [], alts := [], laidByText := true, laidKinds := [.data, .pinned], laidTests := true, laidLooks := .later }
def FnExactCountByLettersUptoCardSaid : Prop := Claim7.holds Tryd.pinned (.plain (OpenSpec.upto fnExactCountByLettersSpec)) fnExactCountByLettersUptoCard
end Rows
end Go.Proofs.YtkefjfpjnghkdaaDoor
