/-
  DERIVED. GIVEN WITH THE SEED: THE CARDS: each row of YthlldokmjpfilaaGreatDoorRows.lean that lists a variable, with what it lists TIED to the program's text (the seventh form; the later family's looks); each row that meets fmt, with fmt's text TOLD by the authors' own Lean function (tested against real Go, not proved from fmt's source: count such statements apart). THE CARD IS WHAT COUNTS. Prove the row's statement (the work); the ties are given (YthlldokmjpfilaaGreatDoorTie.lean); close each card by the builder's one call (the guide's Derived/Test/ToyasCard.lean, 'card_holds'). Laid BY PROGRAM, IN A SANDBOX (cutbox-door.mjs). By AI agents, Wed Nov 11 2026. No macro, syntax, notation, axiom, sorry.
-/
import Derived.Test.YthlldokmjpfilaaGreatDoorRows
import GoSem.ClaimSeven
namespace Go.Proofs.YthlldokmjpfilaaGreatDoor
namespace Rows

/-- THE TIED CARD OF 'laws.FnExactCanBeInStep'. -/
def fnExactCanBeInStepCard : Claim7 := { stood := { row := fnExactCanBeInStepRow, standIns := [], harness := (true, "3bd5101964793a78a6722d5559a194ff75dee626a2861da167a4fa3889e4960a"), looks := false }, kinds := [], alts := [], laidByText := true, laidKinds := [.data, .pinned], laidTests := true, laidLooks := .later }
def FnExactCanBeInStepCardSaid : Prop := Claim7.holds Tryz.pinned (.plain (OpenSpec.ofChange fnExactCanBeInStepSpec)) fnExactCanBeInStepCard

/-- THE TIED CARD OF 'laws.FnExactMeetingWord'. -/
def fnExactMeetingWordCard : Claim7 := { stood := { row := fnExactMeetingWordRow, standIns := [], harness := (true, "3bd5101964793a78a6722d5559a194ff75dee626a2861da167a4fa3889e4960a"), looks := false }, kinds := [], alts := [], laidByText := true, laidKinds := [.data, .pinned], laidTests := true, laidLooks := .later }
def FnExactMeetingWordCardSaid : Prop := Claim7.holds Tryz.pinned (.plain (OpenSpec.ofChange fnExactMeetingWordSpec)) fnExactMeetingWordCard

/-- THE SECOND FORM's CARD OF 'laws.FnExactCanBeInStep'. -/
def fnExactCanBeInStepUptoCard : Claim7 := { stood := { row := fnExactCanBeInStepUptoRow, standIns := [], harness := (true, "3bd5101964793a78a6722d5559a194ff75dee626a2861da167a4fa3889e4960a"), looks := false }, kinds := [], alts := [], laidByText := true, laidKinds := [.data, .pinned], laidTests := true, laidLooks := .later }
def FnExactCanBeInStepUptoCardSaid : Prop := Claim7.holds Tryz.pinned (.plain (OpenSpec.upto fnExactCanBeInStepSpec)) fnExactCanBeInStepUptoCard

/-- THE SECOND FORM's CARD OF 'laws.FnExactMeetingWord'. -/
def fnExactMeetingWordUptoCard : Claim7 := { stood := { row := fnExactMeetingWordUptoRow, standIns := [], harness := (true, "3bd5101964793a78a6722d5559a194ff75dee626a2861da167a4fa3889e4960a"), looks := false }, kinds := [], alts := [], laidByText := true, laidKinds := [.data, .pinned], laidTests := true, laidLooks := .later }
def FnExactMeetingWordUptoCardSaid : Prop := Claim7.holds Tryz.pinned (.plain (OpenSpec.upto fnExactMeetingWordSpec)) fnExactMeetingWordUptoCard
end Rows
end Go.Proofs.YthlldokmjpfilaaGreatDoor
