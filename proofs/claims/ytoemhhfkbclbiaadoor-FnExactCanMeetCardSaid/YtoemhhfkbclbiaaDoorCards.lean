/-
  DERIVED. GIVEN WITH THE SEED: THE CARDS: each row of YtoemhhfkbclbiaaDoorRows.lean that lists a variable, with what it lists TIED to the program's text (the seventh form; the later family's looks); each row that meets fmt, with fmt's text TOLD by the authors' own Lean function (tested against real Go, not proved from fmt's source: count such statements apart). THE CARD IS WHAT COUNTS. Prove the row's statement (the work); the ties are given (YtoemhhfkbclbiaaDoorTie.lean); close each card by the builder's one call (the guide's Derived/Test/ToyasCard.lean, 'card_holds'). Laid BY PROGRAM, IN A SANDBOX (cutbox-door.mjs). By AI agents, Wed Nov 11 2026. No macro, syntax, notation, axiom, sorry.
-/
import Derived.Test.YtoemhhfkbclbiaaDoorRows
import GoSem.ClaimSeven
namespace Go.Proofs.YtoemhhfkbclbiaaDoor
namespace Rows

/-- THE TIED CARD OF 'laws.FnExactWeightOf'. -/
def fnExactWeightOfCard : Claim7 := { stood := { row := fnExactWeightOfRow, standIns := [], harness := (true, "b94c4c3cf95b82860644677752695c3ace6de4dbf3e95441f9f49abb5701981b"), looks := false }, kinds := [], alts := [], laidByText := true, laidKinds := [.data, .pinned], laidTests := true, laidLooks := .later }
def FnExactWeightOfCardSaid : Prop := Claim7.holds Tryd.pinned (.plain (OpenSpec.ofChange fnExactWeightOfSpec)) fnExactWeightOfCard

/-- THE TIED CARD OF 'laws.FnExactIsBeginning'. -/
def fnExactIsBeginningCard : Claim7 := { stood := { row := fnExactIsBeginningRow, standIns := [], harness := (true, "b94c4c3cf95b82860644677752695c3ace6de4dbf3e95441f9f49abb5701981b"), looks := false }, kinds := [], alts := [], laidByText := true, laidKinds := [.data, .pinned], laidTests := true, laidLooks := .later }
def FnExactIsBeginningCardSaid : Prop := Claim7.holds Tryd.pinned (.plain (OpenSpec.ofChange fnExactIsBeginningSpec)) fnExactIsBeginningCard

/-- THE TIED CARD OF 'laws.FnExactCanMeet'. -/
def fnExactCanMeetCard : Claim7 := { stood := { row := fnExactCanMeetRow, standIns := [], harness := (true, "b94c4c3cf95b82860644677752695c3ace6de4dbf3e95441f9f49abb5701981b"), looks := false }, kinds := [], alts := [], laidByText := true, laidKinds := [.data, .pinned], laidTests := true, laidLooks := .later }
def FnExactCanMeetCardSaid : Prop := Claim7.holds Tryd.pinned (.plain (OpenSpec.ofChange fnExactCanMeetSpec)) fnExactCanMeetCard

/-- THE TIED CARD OF 'laws.FnExactLeastGenerators'. -/
def fnExactLeastGeneratorsCard : Claim7 := { stood := { row := fnExactLeastGeneratorsRow, standIns := [], harness := (true, "b94c4c3cf95b82860644677752695c3ace6de4dbf3e95441f9f49abb5701981b"), looks := false }, kinds := [], alts := [], laidByText := true, laidKinds := [.data, .pinned], laidTests := true, laidLooks := .later }
def FnExactLeastGeneratorsCardSaid : Prop := Claim7.holds Tryd.pinned (.plain (OpenSpec.ofChange fnExactLeastGeneratorsSpec)) fnExactLeastGeneratorsCard

/-- THE TIED CARD OF 'laws.FnExactRestUndecided'. -/
def fnExactRestUndecidedCard : Claim7 := { stood := { row := fnExactRestUndecidedRow, standIns := [], harness := (true, "b94c4c3cf95b82860644677752695c3ace6de4dbf3e95441f9f49abb5701981b"), looks := false }, kinds := [], alts := [], laidByText := true, laidKinds := [.data, .pinned], laidTests := true, laidLooks := .later }
def FnExactRestUndecidedCardSaid : Prop := Claim7.holds Tryd.pinned (.plain (OpenSpec.ofChange fnExactRestUndecidedSpec)) fnExactRestUndecidedCard

/-- THE TIED CARD OF 'laws.FnExactFirstWords'. -/
def fnExactFirstWordsCard : Claim7 := { stood := { row := fnExactFirstWordsRow, standIns := [], harness := (true, "b94c4c3cf95b82860644677752695c3ace6de4dbf3e95441f9f49abb5701981b"), looks := false }, kinds := [], alts := [], laidByText := true, laidKinds := [.data, .pinned], laidTests := true, laidLooks := .later }
def FnExactFirstWordsCardSaid : Prop := Claim7.holds Tryd.pinned (.plain (OpenSpec.ofChange fnExactFirstWordsSpec)) fnExactFirstWordsCard

/-- THE SECOND FORM's CARD OF 'laws.FnExactWeightOf'. -/
def fnExactWeightOfUptoCard : Claim7 := { stood := { row := fnExactWeightOfUptoRow, standIns := [], harness := (true, "b94c4c3cf95b82860644677752695c3ace6de4dbf3e95441f9f49abb5701981b"), looks := false }, kinds := [], alts := [], laidByText := true, laidKinds := [.data, .pinned], laidTests := true, laidLooks := .later }
def FnExactWeightOfUptoCardSaid : Prop := Claim7.holds Tryd.pinned (.plain (OpenSpec.upto fnExactWeightOfSpec)) fnExactWeightOfUptoCard

/-- THE SECOND FORM's CARD OF 'laws.FnExactIsBeginning'. -/
def fnExactIsBeginningUptoCard : Claim7 := { stood := { row := fnExactIsBeginningUptoRow, standIns := [], harness := (true, "b94c4c3cf95b82860644677752695c3ace6de4dbf3e95441f9f49abb5701981b"), looks := false }, kinds := [], alts := [], laidByText := true, laidKinds := [.data, .pinned], laidTests := true, laidLooks := .later }
def FnExactIsBeginningUptoCardSaid : Prop := Claim7.holds Tryd.pinned (.plain (OpenSpec.upto fnExactIsBeginningSpec)) fnExactIsBeginningUptoCard

/-- THE SECOND FORM's CARD OF 'laws.FnExactCanMeet'. -/
def fnExactCanMeetUptoCard : Claim7 := { stood := { row := fnExactCanMeetUptoRow, standIns := [], harness := (true, "b94c4c3cf95b82860644677752695c3ace6de4dbf3e95441f9f49abb5701981b"), looks := false }, kinds := [], alts := [], laidByText := true, laidKinds := [.data, .pinned], laidTests := true, laidLooks := .later }
def FnExactCanMeetUptoCardSaid : Prop := Claim7.holds Tryd.pinned (.plain (OpenSpec.upto fnExactCanMeetSpec)) fnExactCanMeetUptoCard

/-- THE SECOND FORM's CARD OF 'laws.FnExactLeastGenerators'. -/
def fnExactLeastGeneratorsUptoCard : Claim7 := { stood := { row := fnExactLeastGeneratorsUptoRow, standIns := [], harness := (true, "b94c4c3cf95b82860644677752695c3ace6de4dbf3e95441f9f49abb5701981b"), looks := false }, kinds := [], alts := [], laidByText := true, laidKinds := [.data, .pinned], laidTests := true, laidLooks := .later }
def FnExactLeastGeneratorsUptoCardSaid : Prop := Claim7.holds Tryd.pinned (.plain (OpenSpec.upto fnExactLeastGeneratorsSpec)) fnExactLeastGeneratorsUptoCard

/-- THE SECOND FORM's CARD OF 'laws.FnExactRestUndecided'. -/
def fnExactRestUndecidedUptoCard : Claim7 := { stood := { row := fnExactRestUndecidedUptoRow, standIns := [], harness := (true, "b94c4c3cf95b82860644677752695c3ace6de4dbf3e95441f9f49abb5701981b"), looks := false }, kinds := [], alts := [], laidByText := true, laidKinds := [.data, .pinned], laidTests := true, laidLooks := .later }
def FnExactRestUndecidedUptoCardSaid : Prop := Claim7.holds Tryd.pinned (.plain (OpenSpec.upto fnExactRestUndecidedSpec)) fnExactRestUndecidedUptoCard

/-- THE SECOND FORM's CARD OF 'laws.FnExactFirstWords'. -/
def fnExactFirstWordsUptoCard : Claim7 := { stood := { row := fnExactFirstWordsUptoRow, standIns := [], harness := (true, "b94c4c3cf95b82860644677752695c3ace6de4dbf3e95441f9f49abb5701981b"), looks := false }, kinds := [], alts := [], laidByText := true, laidKinds := [.data, .pinned], laidTests := true, laidLooks := .later }
def FnExactFirstWordsUptoCardSaid : Prop := Claim7.holds Tryd.pinned (.plain (OpenSpec.upto fnExactFirstWordsSpec)) fnExactFirstWordsUptoCard
end Rows
end Go.Proofs.YtoemhhfkbclbiaaDoor
