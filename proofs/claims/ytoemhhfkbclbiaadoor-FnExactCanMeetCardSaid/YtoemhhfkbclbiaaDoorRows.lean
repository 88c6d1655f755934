/-
  NARROWER THAN 'FOR EVERY INPUT', by the rows' own cells (each row's printed sentence says how): FnExactWeightOf: laid · FnExactIsBeginning: laid · FnExactCanMeet: laid · FnExactLeastGenerators: laid · FnExactRestUndecided: laid · FnExactFirstWords: laid.
  DERIVED. THE GIVEN ROWS OF THIS SEAT. 6 by the template 'for every input the law returns true; each argument reads behind the call as it read before'; 0 by the template 'total and deterministic' (their statements: YtoemhhfkbclbiaaDoorTotals.lean).
  GIVEN WITH THE SEED: the statements are not yours to turn. If you find one false, say at which input.
  Laid BY PROGRAM, IN A SANDBOX (cutbox-rows.mjs): the forced cells as the released guide's own fill.sh prints them over the translation c036ac654ef7b266… (all of the seat's roots in one cut). By AI agents, Wed Nov 11 2026. No macro, syntax, notation, axiom, sorry.
-/
import Derived.Test.YtoemhhfkbclbiaaDoorChecked
import GoSem.PinnedTables
import GoSem.Claim
import GoSem.ClaimJoined
import GoSem.ClaimMapViews
import Derived.JoinedTies
import Derived.KernelRfl
namespace Go.Proofs.YtoemhhfkbclbiaaDoor
/- THE CELL 'sum', in the pinned program and in every row, IS THE sha256 OF THE DUMP (.gsa) THAT YtoemhhfkbclbiaaDoorProg.lean LOADS. Nothing in Lean hashes anything: it is a label: what it is worth is what the hold of that sum in a sandbox is worth. -/
noncomputable def Tryd.pinned : Pinned := { name := "ytoemhhfkbclbiaadoor", sum := "c036ac654ef7b2664487ff9ec4d400a322c45707d6929792cbc3204e04b36a85", checked := Tryd.checked }
namespace Rows
def none {H : Type} : Left H := { results := [], args := [] }

/- WHAT THE LISTED PACKAGE-LEVEL VARIABLES READ AS WHEN THE CALL BEGINS. Each datum BY PROGRAM (the guide's laid-datum.mjs) off the statement by which the dump's own 'gosem.cut.vars' lays the variable. In a bare row this is a premise. The card (YtoemhhfkbclbiaaDoorCards.lean) ties it to the program's text. -/
def laid_unicode_utf8_acceptRanges {H : Type} : DataW H := .agg [.agg [.lit (.int .u8 128), .lit (.int .u8 191)], .agg [.lit (.int .u8 160), .lit (.int .u8 191)], .agg [.lit (.int .u8 128), .lit (.int .u8 159)], .agg [.lit (.int .u8 144), .lit (.int .u8 191)], .agg [.lit (.int .u8 128), .lit (.int .u8 143)], .agg [.lit (.int .u8 0), .lit (.int .u8 0)], .agg [.lit (.int .u8 0), .lit (.int .u8 0)], .agg [.lit (.int .u8 0), .lit (.int .u8 0)], .agg [.lit (.int .u8 0), .lit (.int .u8 0)], .agg [.lit (.int .u8 0), .lit (.int .u8 0)], .agg [.lit (.int .u8 0), .lit (.int .u8 0)], .agg [.lit (.int .u8 0), .lit (.int .u8 0)], .agg [.lit (.int .u8 0), .lit (.int .u8 0)], .agg [.lit (.int .u8 0), .lit (.int .u8 0)], .agg [.lit (.int .u8 0), .lit (.int .u8 0)], .agg [.lit (.int .u8 0), .lit (.int .u8 0)]]
/-- One of Go's own tables, pinned by name: the form's constant. -/
def laid_unicode_utf8_first : DataW Unit := Go.Pinned.utf8First

/-- 'laws.FnExactWeightOf': WHATEVER THE INPUT: true; the input reads as it did. -/
def fnExactWeightOfSpec : ChangeSpec := { name := "fnExactWeightOf", fn := fun _ => fun
  | [d1, d2] => { results := [.lit (.bool true)], args := [d1, d2] }
  | _ => none }
def fnExactWeightOfRow : OpenClaim := { program := "ytoemhhfkbclbiaadoor", sum := "c036ac654ef7b2664487ff9ec4d400a322c45707d6929792cbc3204e04b36a85", func := "loop.example/g01164/laws.FnExactWeightOf", spec := "fnExactWeightOf", inPlace := ["internal/bytealg.IndexByteString", "internal/bytealg.IndexString"], unfollowed := true, recurses := true, named := ["unicode/utf8.first", "unicode/utf8.acceptRanges", "internal/bytealg.MaxLen"], apart := false, laid := [("unicode/utf8.acceptRanges", laid_unicode_utf8_acceptRanges), ("unicode/utf8.first", laid_unicode_utf8_first)] }
def FnExactWeightOfSaid : Prop := fnExactWeightOfRow.holds Tryd.pinned (OpenSpec.ofChange fnExactWeightOfSpec)

/-- ITS FALSE NEIGHBOUR: 'it returns false'. Refute it at one input. -/
def fnExactWeightOfWrong : ChangeSpec := { name := "fnExactWeightOf", fn := fun _ => fun
  | [d1, d2] => { results := [.lit (.bool false)], args := [d1, d2] }
  | _ => none }
def FnExactWeightOfWrongFalsely : Prop := fnExactWeightOfRow.holds Tryd.pinned (OpenSpec.ofChange fnExactWeightOfWrong)

/-- 'laws.FnExactIsBeginning': WHATEVER THE INPUT: true; the input reads as it did. -/
def fnExactIsBeginningSpec : ChangeSpec := { name := "fnExactIsBeginning", fn := fun _ => fun
  | [d1, d2] => { results := [.lit (.bool true)], args := [d1, d2] }
  | _ => none }
def fnExactIsBeginningRow : OpenClaim := { program := "ytoemhhfkbclbiaadoor", sum := "c036ac654ef7b2664487ff9ec4d400a322c45707d6929792cbc3204e04b36a85", func := "loop.example/g01164/laws.FnExactIsBeginning", spec := "fnExactIsBeginning", inPlace := ["internal/bytealg.IndexByteString", "internal/bytealg.IndexString", "internal/bytealg.abigen_runtime_cmpstring"], unfollowed := true, recurses := true, named := ["unicode/utf8.first", "unicode/utf8.acceptRanges", "internal/bytealg.MaxLen"], apart := false, laid := [("unicode/utf8.acceptRanges", laid_unicode_utf8_acceptRanges), ("unicode/utf8.first", laid_unicode_utf8_first)] }
def FnExactIsBeginningSaid : Prop := fnExactIsBeginningRow.holds Tryd.pinned (OpenSpec.ofChange fnExactIsBeginningSpec)

/-- ITS FALSE NEIGHBOUR: 'it returns false'. Refute it at one input. -/
def fnExactIsBeginningWrong : ChangeSpec := { name := "fnExactIsBeginning", fn := fun _ => fun
  | [d1, d2] => { results := [.lit (.bool false)], args := [d1, d2] }
  | _ => none }
def FnExactIsBeginningWrongFalsely : Prop := fnExactIsBeginningRow.holds Tryd.pinned (OpenSpec.ofChange fnExactIsBeginningWrong)

/-- 'laws.FnExactCanMeet': WHATEVER THE INPUT: true; the input reads as it did. -/
def fnExactCanMeetSpec : ChangeSpec := { name := "fnExactCanMeet", fn := fun _ => fun
  | [d1, d2] => { results := [.lit (.bool true)], args := [d1, d2] }
  | _ => none }
def fnExactCanMeetRow : OpenClaim := { program := "ytoemhhfkbclbiaadoor", sum := "c036ac654ef7b2664487ff9ec4d400a322c45707d6929792cbc3204e04b36a85", func := "loop.example/g01164/laws.FnExactCanMeet", spec := "fnExactCanMeet", inPlace := ["internal/bytealg.IndexByteString", "internal/bytealg.IndexString", "internal/bytealg.abigen_runtime_cmpstring"], named := ["unicode/utf8.first", "unicode/utf8.acceptRanges", "internal/bytealg.MaxLen"], apart := false, laid := [("unicode/utf8.acceptRanges", laid_unicode_utf8_acceptRanges), ("unicode/utf8.first", laid_unicode_utf8_first)] }
def FnExactCanMeetSaid : Prop := fnExactCanMeetRow.holds Tryd.pinned (OpenSpec.ofChange fnExactCanMeetSpec)

/-- ITS FALSE NEIGHBOUR: 'it returns false'. Refute it at one input. -/
def fnExactCanMeetWrong : ChangeSpec := { name := "fnExactCanMeet", fn := fun _ => fun
  | [d1, d2] => { results := [.lit (.bool false)], args := [d1, d2] }
  | _ => none }
def FnExactCanMeetWrongFalsely : Prop := fnExactCanMeetRow.holds Tryd.pinned (OpenSpec.ofChange fnExactCanMeetWrong)

/-- 'laws.FnExactLeastGenerators': WHATEVER THE INPUT: true; the input reads as it did. -/
def fnExactLeastGeneratorsSpec : ChangeSpec := { name := "fnExactLeastGenerators", fn := fun _ => fun
  | [d] => { results := [.lit (.bool true)], args := [d] }
  | _ => none }
def fnExactLeastGeneratorsRow : OpenClaim := { program := "ytoemhhfkbclbiaadoor", sum := "c036ac654ef7b2664487ff9ec4d400a322c45707d6929792cbc3204e04b36a85", func := "loop.example/g01164/laws.FnExactLeastGenerators", spec := "fnExactLeastGenerators", inPlace := ["internal/bytealg.IndexByteString", "internal/bytealg.IndexString", "internal/bytealg.abigen_runtime_cmpstring"], recurses := true, named := ["unicode/utf8.first", "unicode/utf8.acceptRanges", "internal/bytealg.MaxLen"], apart := false, laid := [("unicode/utf8.acceptRanges", laid_unicode_utf8_acceptRanges), ("unicode/utf8.first", laid_unicode_utf8_first)] }
def FnExactLeastGeneratorsSaid : Prop := fnExactLeastGeneratorsRow.holds Tryd.pinned (OpenSpec.ofChange fnExactLeastGeneratorsSpec)

/-- ITS FALSE NEIGHBOUR: 'it returns false'. Refute it at one input. -/
def fnExactLeastGeneratorsWrong : ChangeSpec := { name := "fnExactLeastGenerators", fn := fun _ => fun
  | [d] => { results := [.lit (.bool false)], args := [d] }
  | _ => none }
def FnExactLeastGeneratorsWrongFalsely : Prop := fnExactLeastGeneratorsRow.holds Tryd.pinned (OpenSpec.ofChange fnExactLeastGeneratorsWrong)

/-- 'laws.FnExactRestUndecided': WHATEVER THE INPUT: true; the input reads as it did. -/
def fnExactRestUndecidedSpec : ChangeSpec := { name := "fnExactRestUndecided", fn := fun _ => fun
  | [d1, d2] => { results := [.lit (.bool true)], args := [d1, d2] }
  | _ => none }
def fnExactRestUndecidedRow : OpenClaim := { program := "ytoemhhfkbclbiaadoor", sum := "c036ac654ef7b2664487ff9ec4d400a322c45707d6929792cbc3204e04b36a85", func := "loop.example/g01164/laws.FnExactRestUndecided", spec := "fnExactRestUndecided", inPlace := ["internal/bytealg.IndexByteString", "internal/bytealg.IndexString", "internal/bytealg.abigen_runtime_cmpstring"], unfollowed := true, recurses := true, named := ["unicode/utf8.first", "unicode/utf8.acceptRanges", "internal/bytealg.MaxLen"], apart := false, laid := [("unicode/utf8.acceptRanges", laid_unicode_utf8_acceptRanges), ("unicode/utf8.first", laid_unicode_utf8_first)] }
def FnExactRestUndecidedSaid : Prop := fnExactRestUndecidedRow.holds Tryd.pinned (OpenSpec.ofChange fnExactRestUndecidedSpec)

/-- ITS FALSE NEIGHBOUR: 'it returns false'. Refute it at one input. -/
def fnExactRestUndecidedWrong : ChangeSpec := { name := "fnExactRestUndecided", fn := fun _ => fun
  | [d1, d2] => { results := [.lit (.bool false)], args := [d1, d2] }
  | _ => none }
def FnExactRestUndecidedWrongFalsely : Prop := fnExactRestUndecidedRow.holds Tryd.pinned (OpenSpec.ofChange fnExactRestUndecidedWrong)

/-- 'laws.FnExactFirstWords': WHATEVER THE INPUT: true; the input reads as it did. -/
def fnExactFirstWordsSpec : ChangeSpec := { name := "fnExactFirstWords", fn := fun _ => fun
  | [d1, d2] => { results := [.lit (.bool true)], args := [d1, d2] }
  | _ => none }
def fnExactFirstWordsRow : OpenClaim := { program := "ytoemhhfkbclbiaadoor", sum := "c036ac654ef7b2664487ff9ec4d400a322c45707d6929792cbc3204e04b36a85", func := "loop.example/g01164/laws.FnExactFirstWords", spec := "fnExactFirstWords", inPlace := ["internal/bytealg.IndexByteString", "internal/bytealg.IndexString", "internal/bytealg.abigen_runtime_cmpstring"], unfollowed := true, recurses := true, named := ["unicode/utf8.first", "unicode/utf8.acceptRanges", "internal/bytealg.MaxLen"], apart := false, laid := [("unicode/utf8.acceptRanges", laid_unicode_utf8_acceptRanges), ("unicode/utf8.first", laid_unicode_utf8_first)] }
def FnExactFirstWordsSaid : Prop := fnExactFirstWordsRow.holds Tryd.pinned (OpenSpec.ofChange fnExactFirstWordsSpec)

/-- ITS FALSE NEIGHBOUR: 'it returns false'. Refute it at one input. -/
def fnExactFirstWordsWrong : ChangeSpec := { name := "fnExactFirstWords", fn := fun _ => fun
  | [d1, d2] => { results := [.lit (.bool false)], args := [d1, d2] }
  | _ => none }
def FnExactFirstWordsWrongFalsely : Prop := fnExactFirstWordsRow.holds Tryd.pinned (OpenSpec.ofChange fnExactFirstWordsWrong)

/- THE SECOND FORM. 'bulk': how many values and letters a reading holds, each counted each time it is reached (what is shared counts as often as it is met; a slice's spare places count too). A statement '..UptoSaid' is the law's where the arguments, and the package variables that the reading takes, are together of bulk at most 1048576: NARROWER than '..Said'. Prove '..Said' where nothing that the law and all that it calls make is longer than what came in: it says more and counts as full. Else prove '..UptoSaid'. A law counts once. -/
mutual
def uptoBulk {H : Type} : DataW H → Nat
  | .lit (.string bytes) => bytes.length + 1
  | .lit _ => 1
  | .nil => 1
  | .ptr d => uptoBulk d + 1
  | .slice elems spare => uptoBulkAll elems + uptoBulkAll spare + 1
  | .agg parts => uptoBulkAll parts + 1
  | .iface _ d => uptoBulk d + 1
  | .map entries => uptoBulkEntries entries + 1
  | .held _ => 1
def uptoBulkAll {H : Type} : List (DataW H) → Nat
  | [] => 0
  | d :: r => uptoBulk d + uptoBulkAll r
def uptoBulkEntries {H : Type} : List (Lit × DataW H) → Nat
  | [] => 0
  | x :: r => uptoBulkEntry x + uptoBulkEntries r
def uptoBulkEntry {H : Type} : Lit × DataW H → Nat
  | (.string bytes, d) => bytes.length + uptoBulk d + 1
  | (_, d) => uptoBulk d + 1
 end
def uptoSmall : (H : Type) → List (DataW H) → Bool := fun _ ds => decide (uptoBulkAll ds ≤ 1048576)
def OpenSpec.upto (s : _root_.Go.ChangeSpec) : _root_.Go.OpenSpec := { _root_.Go.OpenSpec.ofChange s with cond := some uptoSmall }

/-- 'laws.FnExactWeightOf', WHERE WHAT IT READS IS OF BULK AT MOST 1048576: true; the input reads as it did. -/
def fnExactWeightOfUptoRow : OpenClaim := { program := "ytoemhhfkbclbiaadoor", sum := "c036ac654ef7b2664487ff9ec4d400a322c45707d6929792cbc3204e04b36a85", func := "loop.example/g01164/laws.FnExactWeightOf", spec := "fnExactWeightOf", inPlace := ["internal/bytealg.IndexByteString", "internal/bytealg.IndexString"], unfollowed := true, recurses := true, named := ["unicode/utf8.first", "unicode/utf8.acceptRanges", "internal/bytealg.MaxLen"], apart := false, laid := [("unicode/utf8.acceptRanges", laid_unicode_utf8_acceptRanges), ("unicode/utf8.first", laid_unicode_utf8_first)], narrowed := true }
def FnExactWeightOfUptoSaid : Prop := fnExactWeightOfUptoRow.holds Tryd.pinned (OpenSpec.upto fnExactWeightOfSpec)

/-- 'laws.FnExactIsBeginning', WHERE WHAT IT READS IS OF BULK AT MOST 1048576: true; the input reads as it did. -/
def fnExactIsBeginningUptoRow : OpenClaim := { program := "ytoemhhfkbclbiaadoor", sum := "c036ac654ef7b2664487ff9ec4d400a322c45707d6929792cbc3204e04b36a85", func := "loop.example/g01164/laws.FnExactIsBeginning", spec := "fnExactIsBeginning", inPlace := ["internal/bytealg.IndexByteString", "internal/bytealg.IndexString", "internal/bytealg.abigen_runtime_cmpstring"], unfollowed := true, recurses := true, named := ["unicode/utf8.first", "unicode/utf8.acceptRanges", "internal/bytealg.MaxLen"], apart := false, laid := [("unicode/utf8.acceptRanges", laid_unicode_utf8_acceptRanges), ("unicode/utf8.first", laid_unicode_utf8_first)], narrowed := true }
def FnExactIsBeginningUptoSaid : Prop := fnExactIsBeginningUptoRow.holds Tryd.pinned (OpenSpec.upto fnExactIsBeginningSpec)

/-- 'laws.FnExactCanMeet', WHERE WHAT IT READS IS OF BULK AT MOST 1048576: true; the input reads as it did. -/
def fnExactCanMeetUptoRow : OpenClaim := { program := "ytoemhhfkbclbiaadoor", sum := "c036ac654ef7b2664487ff9ec4d400a322c45707d6929792cbc3204e04b36a85", func := "loop.example/g01164/laws.FnExactCanMeet", spec := "fnExactCanMeet", inPlace := ["internal/bytealg.IndexByteString", "internal/bytealg.IndexString", "internal/bytealg.abigen_runtime_cmpstring"], named := ["unicode/utf8.first", "unicode/utf8.acceptRanges", "internal/bytealg.MaxLen"], apart := false, laid := [("unicode/utf8.acceptRanges", laid_unicode_utf8_acceptRanges), ("unicode/utf8.first", laid_unicode_utf8_first)], narrowed := true }
def FnExactCanMeetUptoSaid : Prop := fnExactCanMeetUptoRow.holds Tryd.pinned (OpenSpec.upto fnExactCanMeetSpec)

/-- 'laws.FnExactLeastGenerators', WHERE WHAT IT READS IS OF BULK AT MOST 1048576: true; the input reads as it did. -/
def fnExactLeastGeneratorsUptoRow : OpenClaim := { program := "ytoemhhfkbclbiaadoor", sum := "c036ac654ef7b2664487ff9ec4d400a322c45707d6929792cbc3204e04b36a85", func := "loop.example/g01164/laws.FnExactLeastGenerators", spec := "fnExactLeastGenerators", inPlace := ["internal/bytealg.IndexByteString", "internal/bytealg.IndexString", "internal/bytealg.abigen_runtime_cmpstring"], recurses := true, named := ["unicode/utf8.first", "unicode/utf8.acceptRanges", "internal/bytealg.MaxLen"], apart := false, laid := [("unicode/utf8.acceptRanges", laid_unicode_utf8_acceptRanges), ("unicode/utf8.first", laid_unicode_utf8_first)], narrowed := true }
def FnExactLeastGeneratorsUptoSaid : Prop := fnExactLeastGeneratorsUptoRow.holds Tryd.pinned (OpenSpec.upto fnExactLeastGeneratorsSpec)

/-- 'laws.FnExactRestUndecided', WHERE WHAT IT READS IS OF BULK AT MOST 1048576: true; the input reads as it did. -/
def fnExactRestUndecidedUptoRow : OpenClaim := { program := "ytoemhhfkbclbiaadoor", sum := "c036ac654ef7b2664487ff9ec4d400a322c45707d6929792cbc3204e04b36a85", func := "loop.example/g01164/laws.FnExactRestUndecided", spec := "fnExactRestUndecided", inPlace := ["internal/bytealg.IndexByteString", "internal/bytealg.IndexString", "internal/bytealg.abigen_runtime_cmpstring"], unfollowed := true, recurses := true, named := ["unicode/utf8.first", "unicode/utf8.acceptRanges", "internal/bytealg.MaxLen"], apart := false, laid := [("unicode/utf8.acceptRanges", laid_unicode_utf8_acceptRanges), ("unicode/utf8.first", laid_unicode_utf8_first)], narrowed := true }
def FnExactRestUndecidedUptoSaid : Prop := fnExactRestUndecidedUptoRow.holds Tryd.pinned (OpenSpec.upto fnExactRestUndecidedSpec)

/-- 'laws.FnExactFirstWords', WHERE WHAT IT READS IS OF BULK AT MOST 1048576: true; the input reads as it did. -/
def fnExactFirstWordsUptoRow : OpenClaim := { program := "ytoemhhfkbclbiaadoor", sum := "c036ac654ef7b2664487ff9ec4d400a322c45707d6929792cbc3204e04b36a85", func := "loop.example/g01164/laws.FnExactFirstWords", spec := "fnExactFirstWords", inPlace := ["internal/bytealg.IndexByteString", "internal/bytealg.IndexString", "internal/bytealg.abigen_runtime_cmpstring"], unfollowed := true, recurses := true, named := ["unicode/utf8.first", "unicode/utf8.acceptRanges", "internal/bytealg.MaxLen"], apart := false, laid := [("unicode/utf8.acceptRanges", laid_unicode_utf8_acceptRanges), ("unicode/utf8.first", laid_unicode_utf8_first)], narrowed := true }
def FnExactFirstWordsUptoSaid : Prop := fnExactFirstWordsUptoRow.holds Tryd.pinned (OpenSpec.upto fnExactFirstWordsSpec)

end Rows
end Go.Proofs.YtoemhhfkbclbiaaDoor
