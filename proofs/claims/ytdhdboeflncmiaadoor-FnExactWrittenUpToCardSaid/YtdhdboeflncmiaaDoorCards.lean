/-
  DERIVED. GIVEN WITH THE SEED: THE CARDS: each row of YtdhdboeflncmiaaDoorRows.lean that lists a variable, with what it lists TIED to the program's text (the seventh form; the later family's looks); each row that meets fmt, with fmt's text TOLD by the authors' own Lean function (tested against real Go, not proved from fmt's source: count such statements apart). THE CARD IS WHAT COUNTS. Prove the row's statement (the work); the ties are given (YtdhdboeflncmiaaDoorTie.lean); close each card by the builder's one call (the guide's Derived/Test/ToyasCard.lean, 'card_holds'). Laid BY PROGRAM, IN A SANDBOX (cutbox-door.mjs). By AI agents, Wed Nov 11 2026. No macro, syntax, notation, axiom, sorry.
-/
import Derived.Test.YtdhdboeflncmiaaDoorRows
import GoSem.ClaimSeven
namespace Go.Proofs.YtdhdboeflncmiaaDoor
namespace Rows

/-- THE TIED CARD OF 'laws.FnExactAreTurns'. -/
def fnExactAreTurnsCard : Claim7 := { stood := { row := fnExactAreTurnsRow, standIns := [], harness := (true, "8e1e9d4a185787c27300b1a9ad09ebe19e49e6fd548f72d25e84427853143b15"), looks := false }, kinds := [], alts := [], laidByText := true, laidKinds := [.data, .pinned], laidTests := true, laidLooks := .later }
def FnExactAreTurnsCardSaid : Prop := Claim7.holds Tryd.pinned (.plain (OpenSpec.ofChange fnExactAreTurnsSpec)) fnExactAreTurnsCard

/-- THE TIED CARD OF 'laws.FnExactTurnsOf'. -/
def fnExactTurnsOfCard : Claim7 := { stood := { row := fnExactTurnsOfRow, standIns := [], harness := (true, "8e1e9d4a185787c27300b1a9ad09ebe19e49e6fd548f72d25e84427853143b15"), looks := false }, kinds := [], alts := [], laidByText := true, laidKinds := [.data, .pinned], laidTests := true, laidLooks := .later }
def FnExactTurnsOfCardSaid : Prop := Claim7.holds Tryd.pinned (.plain (OpenSpec.ofChange fnExactTurnsOfSpec)) fnExactTurnsOfCard

/-- THE TIED CARD OF 'laws.FnExactWrittenUpTo'. -/
def fnExactWrittenUpToCard : Claim7 := { stood := { row := fnExactWrittenUpToRow, standIns := [], harness := (true, "8e1e9d4a185787c27300b1a9ad09ebe19e49e6fd548f72d25e84427853143b15"), looks := false }, kinds := [], alts := [], laidByText := true, laidKinds := [.data, .pinned], laidTests := true, laidLooks := .later }
def FnExactWrittenUpToCardSaid : Prop := Claim7.holds Tryd.pinned (.plain (OpenSpec.ofChange fnExactWrittenUpToSpec)) fnExactWrittenUpToCard

/-- THE TIED CARD OF 'laws.FnExactHasDelay'. -/
def fnExactHasDelayCard : Claim7 := { stood := { row := fnExactHasDelayRow, standIns := [], harness := (true, "8e1e9d4a185787c27300b1a9ad09ebe19e49e6fd548f72d25e84427853143b15"), looks := false }, kinds := [], alts := [], laidByText := true, laidKinds := [.data, .pinned], laidTests := true, laidLooks := .later }
def FnExactHasDelayCardSaid : Prop := Claim7.holds Tryd.pinned (.plain (OpenSpec.ofChange fnExactHasDelaySpec)) fnExactHasDelayCard

/-- THE TIED CARD OF 'laws.FnExactRestsAfter'. -/
def fnExactRestsAfterCard : Claim7 := { stood := { row := fnExactRestsAfterRow, standIns := [], harness := (true, "8e1e9d4a185787c27300b1a9ad09ebe19e49e6fd548f72d25e84427853143b15"), looks := false }, kinds := [], alts := [], laidByText := true, laidKinds := [.data, .pinned], laidTests := true, laidLooks := .later }
def FnExactRestsAfterCardSaid : Prop := Claim7.holds Tryd.pinned (.plain (OpenSpec.ofChange fnExactRestsAfterSpec)) fnExactRestsAfterCard

/-- THE TIED CARD OF 'laws.FnExactPairWaiting'. -/
def fnExactPairWaitingCard : Claim7 := { stood := { row := fnExactPairWaitingRow, standIns := [], harness := (true, "8e1e9d4a185787c27300b1a9ad09ebe19e49e6fd548f72d25e84427853143b15"), looks := false }, kinds := [], alts := [], laidByText := true, laidKinds := [.data, .pinned], laidTests := true, laidLooks := .later }
def FnExactPairWaitingCardSaid : Prop := Claim7.holds Tryd.pinned (.plain (OpenSpec.ofChange fnExactPairWaitingSpec)) fnExactPairWaitingCard

/-- THE SECOND FORM's CARD OF 'laws.FnExactAreTurns'. -/
def fnExactAreTurnsUptoCard : Claim7 := { stood := { row := fnExactAreTurnsUptoRow, standIns := [], harness := (true, "8e1e9d4a185787c27300b1a9ad09ebe19e49e6fd548f72d25e84427853143b15"), looks := false }, kinds := [], alts := [], laidByText := true, laidKinds := [.data, .pinned], laidTests := true, laidLooks := .later }
def FnExactAreTurnsUptoCardSaid : Prop := Claim7.holds Tryd.pinned (.plain (OpenSpec.upto fnExactAreTurnsSpec)) fnExactAreTurnsUptoCard

/-- THE SECOND FORM's CARD OF 'laws.FnExactTurnsOf'. -/
def fnExactTurnsOfUptoCard : Claim7 := { stood := { row := fnExactTurnsOfUptoRow, standIns := [], harness := (true, "8e1e9d4a185787c27300b1a9ad09ebe19e49e6fd548f72d25e84427853143b15"), looks := false }, kinds := [], alts := [], laidByText := true, laidKinds := [.data, .pinned], laidTests := true, laidLooks := .later }
def FnExactTurnsOfUptoCardSaid : Prop := Claim7.holds Tryd.pinned (.plain (OpenSpec.upto fnExactTurnsOfSpec)) fnExactTurnsOfUptoCard

/-- THE SECOND FORM's CARD OF 'laws.FnExactWrittenUpTo'. -/
def fnExactWrittenUpToUptoCard : Claim7 := { stood := { row := fnExactWrittenUpToUptoRow, standIns := [], harness := (true, "8e1e9d4a185787c27300b1a9ad09ebe19e49e6fd548f72d25e84427853143b15"), looks := false }, kinds := [], alts := [], laidByText := true, laidKinds := [.data, .pinned], laidTests := true, laidLooks := .later }
def FnExactWrittenUpToUptoCardSaid : Prop := Claim7.holds Tryd.pinned (.plain (OpenSpec.upto fnExactWrittenUpToSpec)) fnExactWrittenUpToUptoCard

/-- THE SECOND FORM's CARD OF 'laws.FnExactHasDelay'. -/
def fnExactHasDelayUptoCard : Claim7 := { stood := { row := fnExactHasDelayUptoRow, standIns := [], harness := (true, "8e1e9d4a185787c27300b1a9ad09ebe19e49e6fd548f72d25e84427853143b15"), looks := false }, kinds := [], alts := [], laidByText := true, laidKinds := [.data, .pinned], laidTests := true, laidLooks := .later }
def FnExactHasDelayUptoCardSaid : Prop := Claim7.holds Tryd.pinned (.plain (OpenSpec.upto fnExactHasDelaySpec)) fnExactHasDelayUptoCard

/-- THE SECOND FORM's CARD OF 'laws.FnExactRestsAfter'. -/
def fnExactRestsAfterUptoCard : Claim7 := { stood := { row := fnExactRestsAfterUptoRow, standIns := [], harness := (true, "8e1e9d4a185787c27300b1a9ad09ebe19e49e6fd548f72d25e84427853143b15"), looks := false }, kinds := [], alts := [], laidByText := true, laidKinds := [.data, .pinned], laidTests := true, laidLooks := .later }
def FnExactRestsAfterUptoCardSaid : Prop := Claim7.holds Tryd.pinned (.plain (OpenSpec.upto fnExactRestsAfterSpec)) fnExactRestsAfterUptoCard

/-- THE SECOND FORM's CARD OF 'laws.FnExactPairWaiting'. -/
def fnExactPairWaitingUptoCard : Claim7 := { stood := { row := fnExactPairWaitingUptoRow, standIns := [], harness := (true, "8e1e9d4a185787c27300b1a9ad09ebe19e49e6fd548f72d25e84427853143b15"), looks := false }, kinds := [], alts := [], laidByText := true, laidKinds := [.data, .pinned], laidTests := true, laidLooks := .later }
def FnExactPairWaitingUptoCardSaid : Prop := Claim7.holds Tryd.pinned (.plain (OpenSpec.upto fnExactPairWaitingSpec)) fnExactPairWaitingUptoCard
end Rows
end Go.Proofs.YtdhdboeflncmiaaDoor
