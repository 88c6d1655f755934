/-
  DERIVED. GIVEN WITH THE SEED: THE CARDS: each row of YtaglbacldonflaaDoorRows.lean that lists a variable, with what it lists TIED to the program's text (the seventh form; the later family's looks); each row that meets fmt, with fmt's text TOLD by the authors' own Lean function (tested against real Go, not proved from fmt's source: count such statements apart). THE CARD IS WHAT COUNTS. Prove the row's statement (the work); the ties are given (YtaglbacldonflaaDoorTie.lean); close each card by the builder's one call (the guide's Derived/Test/ToyasCard.lean, 'card_holds'). Laid BY PROGRAM, IN A SANDBOX (cutbox-door.mjs). By AI agents, Wed Nov 11 2026. No macro, syntax, notation, axiom, sorry.
-/
import Derived.Test.YtaglbacldonflaaDoorRows
import GoSem.ClaimSeven
namespace Go.Proofs.YtaglbacldonflaaDoor
namespace Rows

/-- THE TIED CARD OF 'laws.FnExactAreLetterAlike'. -/
def fnExactAreLetterAlikeCard : Claim7 := { stood := { row := fnExactAreLetterAlikeRow, standIns := [], harness := (true, "a143ce7fde1f2b85033821979d68ef7a6c33af134076b4eb831e0e8558cc6200"), looks := false }, kinds := [], alts := [], laidByText := true, laidKinds := [.data, .pinned], laidTests := true, laidLooks := .later }
def FnExactAreLetterAlikeCardSaid : Prop := Claim7.holds Tryd.pinned (.plain (OpenSpec.ofChange fnExactAreLetterAlikeSpec)) fnExactAreLetterAlikeCard

/-- THE TIED CARD OF 'laws.FnExactInnerWeight'. -/
def fnExactInnerWeightCard : Claim7 := { stood := { row := fnExactInnerWeightRow, standIns := [], harness := (true, "a143ce7fde1f2b85033821979d68ef7a6c33af134076b4eb831e0e8558cc6200"), looks := false }, kinds := [], alts := [], laidByText := true, laidKinds := [.data, .pinned], laidTests := true, laidLooks := .later }
def FnExactInnerWeightCardSaid : Prop := Claim7.holds Tryd.pinned (.plain (OpenSpec.ofChange fnExactInnerWeightSpec)) fnExactInnerWeightCard

/-- THE TIED CARD OF 'laws.FnExactMissingBehind'. -/
def fnExactMissingBehindCard : Claim7 := { stood := { row := fnExactMissingBehindRow, standIns := [], harness := (true, "a143ce7fde1f2b85033821979d68ef7a6c33af134076b4eb831e0e8558cc6200"), looks := false }, kinds := [], alts := [], laidByText := true, laidKinds := [.data, .pinned], laidTests := true, laidLooks := .later }
def FnExactMissingBehindCardSaid : Prop := Claim7.holds Tryd.pinned (.plain (OpenSpec.ofChange fnExactMissingBehindSpec)) fnExactMissingBehindCard

/-- THE TIED CARD OF 'laws.FnExactMeetGenerators'. -/
def fnExactMeetGeneratorsCard : Claim7 := { stood := { row := fnExactMeetGeneratorsRow, standIns := [], harness := (true, "a143ce7fde1f2b85033821979d68ef7a6c33af134076b4eb831e0e8558cc6200"), looks := false }, kinds := [], alts := [], laidByText := true, laidKinds := [.data, .pinned], laidTests := true, laidLooks := .later }
def FnExactMeetGeneratorsCardSaid : Prop := Claim7.holds Tryd.pinned (.plain (OpenSpec.ofChange fnExactMeetGeneratorsSpec)) fnExactMeetGeneratorsCard

/-- THE TIED CARD OF 'laws.FnExactDelayOf'. -/
def fnExactDelayOfCard : Claim7 := { stood := { row := fnExactDelayOfRow, standIns := [], harness := (true, "a143ce7fde1f2b85033821979d68ef7a6c33af134076b4eb831e0e8558cc6200"), looks := false }, kinds := [], alts := [], laidByText := true, laidKinds := [.data, .pinned], laidTests := true, laidLooks := .later }
def FnExactDelayOfCardSaid : Prop := Claim7.holds Tryd.pinned (.plain (OpenSpec.ofChange fnExactDelayOfSpec)) fnExactDelayOfCard

/-- THE TIED CARD OF 'laws.FnExactDelayBack'. -/
def fnExactDelayBackCard : Claim7 := { stood := { row := fnExactDelayBackRow, standIns := [], harness := (true, "a143ce7fde1f2b85033821979d68ef7a6c33af134076b4eb831e0e8558cc6200"), looks := false }, kinds := [], alts := [], laidByText := true, laidKinds := [.data, .pinned], laidTests := true, laidLooks := .later }
def FnExactDelayBackCardSaid : Prop := Claim7.holds Tryd.pinned (.plain (OpenSpec.ofChange fnExactDelayBackSpec)) fnExactDelayBackCard

/-- THE SECOND FORM's CARD OF 'laws.FnExactAreLetterAlike'. -/
def fnExactAreLetterAlikeUptoCard : Claim7 := { stood := { row := fnExactAreLetterAlikeUptoRow, standIns := [], harness := (true, "a143ce7fde1f2b85033821979d68ef7a6c33af134076b4eb831e0e8558cc6200"), looks := false }, kinds := [], alts := [], laidByText := true, laidKinds := [.data, .pinned], laidTests := true, laidLooks := .later }
def FnExactAreLetterAlikeUptoCardSaid : Prop := Claim7.holds Tryd.pinned (.plain (OpenSpec.upto fnExactAreLetterAlikeSpec)) fnExactAreLetterAlikeUptoCard

/-- THE SECOND FORM's CARD OF 'laws.FnExactInnerWeight'. -/
def fnExactInnerWeightUptoCard : Claim7 := { stood := { row := fnExactInnerWeightUptoRow, standIns := [], harness := (true, "a143ce7fde1f2b85033821979d68ef7a6c33af134076b4eb831e0e8558cc6200"), looks := false }, kinds := [], alts := [], laidByText := true, laidKinds := [.data, .pinned], laidTests := true, laidLooks := .later }
def FnExactInnerWeightUptoCardSaid : Prop := Claim7.holds Tryd.pinned (.plain (OpenSpec.upto fnExactInnerWeightSpec)) fnExactInnerWeightUptoCard

/-- THE SECOND FORM's CARD OF 'laws.FnExactMissingBehind'. -/
def fnExactMissingBehindUptoCard : Claim7 := { stood := { row := fnExactMissingBehindUptoRow, standIns := [], harness := (true, "a143ce7fde1f2b85033821979d68ef7a6c33af134076b4eb831e0e8558cc6200"), looks := false }, kinds := [], alts := [], laidByText := true, laidKinds := [.data, .pinned], laidTests := true, laidLooks := .later }
def FnExactMissingBehindUptoCardSaid : Prop := Claim7.holds Tryd.pinned (.plain (OpenSpec.upto fnExactMissingBehindSpec)) fnExactMissingBehindUptoCard

/-- THE SECOND FORM's CARD OF 'laws.FnExactMeetGenerators'. -/
def fnExactMeetGeneratorsUptoCard : Claim7 := { stood := { row := fnExactMeetGeneratorsUptoRow, standIns := [], harness := (true, "a143ce7fde1f2b85033821979d68ef7a6c33af134076b4eb831e0e8558cc6200"), looks := false }, kinds := [], alts := [], laidByText := true, laidKinds := [.data, .pinned], laidTests := true, laidLooks := .later }
def FnExactMeetGeneratorsUptoCardSaid : Prop := Claim7.holds Tryd.pinned (.plain (OpenSpec.upto fnExactMeetGeneratorsSpec)) fnExactMeetGeneratorsUptoCard

/-- THE SECOND FORM's CARD OF 'laws.FnExactDelayOf'. -/
def fnExactDelayOfUptoCard : Claim7 := { stood := { row := fnExactDelayOfUptoRow, standIns := [], harness := (true, "a143ce7fde1f2b85033821979d68ef7a6c33af134076b4eb831e0e8558cc6200"), looks := false }, kinds := [], alts := [], laidByText := true, laidKinds := [.data, .pinned], laidTests := true, laidLooks := .later }
def FnExactDelayOfUptoCardSaid : Prop := Claim7.holds Tryd.pinned (.plain (OpenSpec.upto fnExactDelayOfSpec)) fnExactDelayOfUptoCard

/-- THE SECOND FORM's CARD OF 'laws.FnExactDelayBack'. -/
def fnExactDelayBackUptoCard : Claim7 := { stood := { row := fnExactDelayBackUptoRow, standIns := [], harness := (true, "a143ce7fde1f2b85033821979d68ef7a6c33af134076b4eb831e0e8558cc6200"), looks := false }, kinds := [], alts := [], laidByText := true, laidKinds := [.data, .pinned], laidTests := true, laidLooks := .later }
def FnExactDelayBackUptoCardSaid : Prop := Claim7.holds Tryd.pinned (.plain (OpenSpec.upto fnExactDelayBackSpec)) fnExactDelayBackUptoCard
end Rows
end Go.Proofs.YtaglbacldonflaaDoor
