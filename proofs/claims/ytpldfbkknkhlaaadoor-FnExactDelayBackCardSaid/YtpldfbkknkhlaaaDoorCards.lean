/-
  DERIVED. GIVEN WITH THE SEED: THE CARDS: each row of YtpldfbkknkhlaaaDoorRows.lean that lists a variable, with what it lists TIED to the program's text (the seventh form; the later family's looks); each row that meets fmt, with fmt's text TOLD by the authors' own Lean function (tested against real Go, not proved from fmt's source: count such statements apart). THE CARD IS WHAT COUNTS. Prove the row's statement (the work); the ties are given (YtpldfbkknkhlaaaDoorTie.lean); close each card by the builder's one call (the guide's Derived/Test/ToyasCard.lean, 'card_holds'). Laid BY PROGRAM, IN A SANDBOX (cutbox-door.mjs). By AI agents, Wed Nov 11 2026. No macro, syntax, notation, axiom, sorry.
-/
import Derived.Test.YtpldfbkknkhlaaaDoorRows
import GoSem.ClaimSeven
namespace Go.Proofs.YtpldfbkknkhlaaaDoor
namespace Rows

/-- THE TIED CARD OF 'laws.FnExactDelayOf'. -/
def fnExactDelayOfCard : Claim7 := { stood := { row := fnExactDelayOfRow, standIns := [], harness := (true, "d905c0b2050d4df3be02bad42a802fc035b898da33ba35f80808dfc94e3e0957"), looks := false }, kinds := [], alts := [], laidByText := true, laidKinds := [.data, .pinned], laidTests := true, laidLooks := .later }
def FnExactDelayOfCardSaid : Prop := Claim7.holds Tryd.pinned (.plain (OpenSpec.ofChange fnExactDelayOfSpec)) fnExactDelayOfCard

/-- THE TIED CARD OF 'laws.FnExactDelayBack'. -/
def fnExactDelayBackCard : Claim7 := { stood := { row := fnExactDelayBackRow, standIns := [], harness := (true, "d905c0b2050d4df3be02bad42a802fc035b898da33ba35f80808dfc94e3e0957"), looks := false }, kinds := [], alts := [], laidByText := true, laidKinds := [.data, .pinned], laidTests := true, laidLooks := .later }
def FnExactDelayBackCardSaid : Prop := Claim7.holds Tryd.pinned (.plain (OpenSpec.ofChange fnExactDelayBackSpec)) fnExactDelayBackCard

/-- THE SECOND FORM's CARD OF 'laws.FnExactDelayOf'. -/
def fnExactDelayOfUptoCard : Claim7 := { stood := { row := fnExactDelayOfUptoRow, standIns := [], harness := (true, "d905c0b2050d4df3be02bad42a802fc035b898da33ba35f80808dfc94e3e0957"), looks := false }, kinds := [], alts := [], laidByText := true, laidKinds := [.data, .pinned], laidTests := true, laidLooks := .later }
def FnExactDelayOfUptoCardSaid : Prop := Claim7.holds Tryd.pinned (.plain (OpenSpec.upto fnExactDelayOfSpec)) fnExactDelayOfUptoCard

/-- THE SECOND FORM's CARD OF 'laws.FnExactDelayBack'. -/
def fnExactDelayBackUptoCard : Claim7 := { stood := { row := fnExactDelayBackUptoRow, standIns := [], harness := (true, "d905c0b2050d4df3be02bad42a802fc035b898da33ba35f80808dfc94e3e0957"), looks := false }, kinds := [], alts := [], laidByText := true, laidKinds := [.data, .pinned], laidTests := true, laidLooks := .later }
def FnExactDelayBackUptoCardSaid : Prop := Claim7.holds Tryd.pinned (.plain (OpenSpec.upto fnExactDelayBackSpec)) fnExactDelayBackUptoCard
end Rows
end Go.Proofs.YtpldfbkknkhlaaaDoor
