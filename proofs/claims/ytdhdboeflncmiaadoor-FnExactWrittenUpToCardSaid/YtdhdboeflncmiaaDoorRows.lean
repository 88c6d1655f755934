/-
  NARROWER THAN 'FOR EVERY INPUT', by the rows' own cells (each row's printed sentence says how): FnExactAreTurns: laid · FnExactTurnsOf: laid · FnExactWrittenUpTo: laid · FnExactHasDelay: laid · FnExactRestsAfter: laid · FnExactPairWaiting: laid.
  DERIVED. THE GIVEN ROWS OF THIS SEAT. 6 by the template 'for every input the law returns true; each argument reads behind the call as it read before'; 0 by the template 'total and deterministic' (their statements: YtdhdboeflncmiaaDoorTotals.lean).
  GIVEN WITH THE SEED: the statements are not yours to turn. If you find one false, say at which input.
  Laid BY PROGRAM, IN A SANDBOX (cutbox-rows.mjs): the forced cells as the released guide's own fill.sh prints them over the translation 8fdd5d4154e1be0b… (all of the seat's roots in one cut). By AI agents, Wed Nov 11 2026. No macro, syntax, notation, axiom, sorry.
-/
import Derived.Test.YtdhdboeflncmiaaDoorChecked
import GoSem.PinnedTables
import GoSem.Claim
import GoSem.ClaimJoined
import GoSem.ClaimMapViews
import Derived.JoinedTies
import Derived.KernelRfl
namespace Go.Proofs.YtdhdboeflncmiaaDoor
/- THE CELL 'sum', in the pinned program and in every row, IS THE sha256 OF THE DUMP (.gsa) THAT YtdhdboeflncmiaaDoorProg.lean LOADS. Nothing in Lean hashes anything: it is a label: what it is worth is what the hold of that sum in a sandbox is worth. -/
noncomputable def Tryd.pinned : Pinned := { name := "ytdhdboeflncmiaadoor", sum := "8fdd5d4154e1be0bc0a7997492bdcd6361694fece39df287dc6fda218118fdb7", checked := Tryd.checked }
namespace Rows
def none {H : Type} : Left H := { results := [], args := [] }

/- WHAT THE LISTED PACKAGE-LEVEL VARIABLES READ AS WHEN THE CALL BEGINS. Each datum BY PROGRAM (the guide's laid-datum.mjs) off the statement by which the dump's own 'gosem.cut.vars' lays the variable. In a bare row this is a premise. The card (YtdhdboeflncmiaaDoorCards.lean) ties it to the program's text. -/
def laid_unicode_utf8_acceptRanges {H : Type} : DataW H := .agg [.agg [.lit (.int .u8 128), .lit (.int .u8 191)], .agg [.lit (.int .u8 160), .lit (.int .u8 191)], .agg [.lit (.int .u8 128), .lit (.int .u8 159)], .agg [.lit (.int .u8 144), .lit (.int .u8 191)], .agg [.lit (.int .u8 128), .lit (.int .u8 143)], .agg [.lit (.int .u8 0), .lit (.int .u8 0)], .agg [.lit (.int .u8 0), .lit (.int .u8 0)], .agg [.lit (.int .u8 0), .lit (.int .u8 0)], .agg [.lit (.int .u8 0), .lit (.int .u8 0)], .agg [.lit (.int .u8 0), .lit (.int .u8 0)], .agg [.lit (.int .u8 0), .lit (.int .u8 0)], .agg [.lit (.int .u8 0), .lit (.int .u8 0)], .agg [.lit (.int .u8 0), .lit (.int .u8 0)], .agg [.lit (.int .u8 0), .lit (.int .u8 0)], .agg [.lit (.int .u8 0), .lit (.int .u8 0)], .agg [.lit (.int .u8 0), .lit (.int .u8 0)]]
/-- One of Go's own tables, pinned by name: the form's constant. -/
def laid_unicode_utf8_first : DataW Unit := Go.Pinned.utf8First

/-- 'laws.FnExactAreTurns': WHATEVER THE INPUT: true; the input reads as it did. -/
def fnExactAreTurnsSpec : ChangeSpec := { name := "fnExactAreTurns", fn := fun _ => fun
  | [d1, d2] => { results := [.lit (.bool true)], args := [d1, d2] }
  | _ => none }
def fnExactAreTurnsRow : OpenClaim := { program := "ytdhdboeflncmiaadoor", sum := "8fdd5d4154e1be0bc0a7997492bdcd6361694fece39df287dc6fda218118fdb7", func := "loop.example/g01164/laws.FnExactAreTurns", spec := "fnExactAreTurns", inPlace := ["internal/bytealg.IndexByteString", "internal/bytealg.IndexString", "internal/bytealg.abigen_runtime_cmpstring"], unfollowed := true, recurses := true, named := ["unicode/utf8.first", "unicode/utf8.acceptRanges", "internal/bytealg.MaxLen"], apart := false, laid := [("unicode/utf8.acceptRanges", laid_unicode_utf8_acceptRanges), ("unicode/utf8.first", laid_unicode_utf8_first)] }
def FnExactAreTurnsSaid : Prop := fnExactAreTurnsRow.holds Tryd.pinned (OpenSpec.ofChange fnExactAreTurnsSpec)

/-- ITS FALSE NEIGHBOUR: 'it returns false'. Refute it at one input. -/
def fnExactAreTurnsWrong : ChangeSpec := { name := "fnExactAreTurns", fn := fun _ => fun
  | [d1, d2] => { results := [.lit (.bool false)], args := [d1, d2] }
  | _ => none }
def FnExactAreTurnsWrongFalsely : Prop := fnExactAreTurnsRow.holds Tryd.pinned (OpenSpec.ofChange fnExactAreTurnsWrong)

/-- 'laws.FnExactTurnsOf': WHATEVER THE INPUT: true; the input reads as it did. -/
def fnExactTurnsOfSpec : ChangeSpec := { name := "fnExactTurnsOf", fn := fun _ => fun
  | [d] => { results := [.lit (.bool true)], args := [d] }
  | _ => none }
def fnExactTurnsOfRow : OpenClaim := { program := "ytdhdboeflncmiaadoor", sum := "8fdd5d4154e1be0bc0a7997492bdcd6361694fece39df287dc6fda218118fdb7", func := "loop.example/g01164/laws.FnExactTurnsOf", spec := "fnExactTurnsOf", inPlace := ["internal/bytealg.IndexByteString", "internal/bytealg.IndexString", "internal/bytealg.abigen_runtime_cmpstring"], unfollowed := true, recurses := true, named := ["unicode/utf8.first", "unicode/utf8.acceptRanges", "internal/bytealg.MaxLen"], apart := false, laid := [("unicode/utf8.acceptRanges", laid_unicode_utf8_acceptRanges), ("unicode/utf8.first", laid_unicode_utf8_first)] }
def FnExactTurnsOfSaid : Prop := fnExactTurnsOfRow.holds Tryd.pinned (OpenSpec.ofChange fnExactTurnsOfSpec)

/-- ITS FALSE NEIGHBOUR: 'it returns false'. Refute it at one input. -/
def fnExactTurnsOfWrong : ChangeSpec := { name := "fnExactTurnsOf", fn := fun _ => fun
  | [d] => { results := [.lit (.bool false)], args := [d] }
  | _ => none }
def FnExactTurnsOfWrongFalsely : Prop := fnExactTurnsOfRow.holds Tryd.pinned (OpenSpec.ofChange fnExactTurnsOfWrong)

/-- 'laws.FnExactWrittenUpTo': WHATEVER THE INPUT: true; the input reads as it did. -/
def fnExactWrittenUpToSpec : ChangeSpec := { name := "fnExactWrittenUpTo", fn := fun _ => fun
  | [d1, d2] => { results := [.lit (.bool true)], args := [d1, d2] }
  | _ => none }
def fnExactWrittenUpToRow : OpenClaim := { program := "ytdhdboeflncmiaadoor", sum := "8fdd5d4154e1be0bc0a7997492bdcd6361694fece39df287dc6fda218118fdb7", func := "loop.example/g01164/laws.FnExactWrittenUpTo", spec := "fnExactWrittenUpTo", inPlace := ["internal/bytealg.IndexByteString", "internal/bytealg.IndexString", "internal/bytealg.abigen_runtime_cmpstring"], unfollowed := true, recurses := true, named := ["unicode/utf8.first", "unicode/utf8.acceptRanges", "internal/bytealg.MaxLen"], apart := false, laid := [("unicode/utf8.acceptRanges", laid_unicode_utf8_acceptRanges), ("unicode/utf8.first", laid_unicode_utf8_first)] }
def FnExactWrittenUpToSaid : Prop := fnExactWrittenUpToRow.holds Tryd.pinned (OpenSpec.ofChange fnExactWrittenUpToSpec)

/-- ITS FALSE NEIGHBOUR: 'it returns false'. Refute it at one input. -/
def fnExactWrittenUpToWrong : ChangeSpec := { name := "fnExactWrittenUpTo", fn := fun _ => fun
  | [d1, d2] => { results := [.lit (.bool false)], args := [d1, d2] }
  | _ => none }
def FnExactWrittenUpToWrongFalsely : Prop := fnExactWrittenUpToRow.holds Tryd.pinned (OpenSpec.ofChange fnExactWrittenUpToWrong)

/-- 'laws.FnExactHasDelay': WHATEVER THE INPUT: true; the input reads as it did. -/
def fnExactHasDelaySpec : ChangeSpec := { name := "fnExactHasDelay", fn := fun _ => fun
  | [d1, d2] => { results := [.lit (.bool true)], args := [d1, d2] }
  | _ => none }
def fnExactHasDelayRow : OpenClaim := { program := "ytdhdboeflncmiaadoor", sum := "8fdd5d4154e1be0bc0a7997492bdcd6361694fece39df287dc6fda218118fdb7", func := "loop.example/g01164/laws.FnExactHasDelay", spec := "fnExactHasDelay", inPlace := ["internal/bytealg.IndexByteString", "internal/bytealg.IndexString", "internal/bytealg.abigen_runtime_cmpstring"], unfollowed := true, recurses := true, named := ["unicode/utf8.first", "unicode/utf8.acceptRanges", "internal/bytealg.MaxLen"], apart := false, laid := [("unicode/utf8.acceptRanges", laid_unicode_utf8_acceptRanges), ("unicode/utf8.first", laid_unicode_utf8_first)] }
def FnExactHasDelaySaid : Prop := fnExactHasDelayRow.holds Tryd.pinned (OpenSpec.ofChange fnExactHasDelaySpec)

/-- ITS FALSE NEIGHBOUR: 'it returns false'. Refute it at one input. -/
def fnExactHasDelayWrong : ChangeSpec := { name := "fnExactHasDelay", fn := fun _ => fun
  | [d1, d2] => { results := [.lit (.bool false)], args := [d1, d2] }
  | _ => none }
def FnExactHasDelayWrongFalsely : Prop := fnExactHasDelayRow.holds Tryd.pinned (OpenSpec.ofChange fnExactHasDelayWrong)

/-- 'laws.FnExactRestsAfter': WHATEVER THE INPUT: true; the input reads as it did. -/
def fnExactRestsAfterSpec : ChangeSpec := { name := "fnExactRestsAfter", fn := fun _ => fun
  | [d1, d2] => { results := [.lit (.bool true)], args := [d1, d2] }
  | _ => none }
def fnExactRestsAfterRow : OpenClaim := { program := "ytdhdboeflncmiaadoor", sum := "8fdd5d4154e1be0bc0a7997492bdcd6361694fece39df287dc6fda218118fdb7", func := "loop.example/g01164/laws.FnExactRestsAfter", spec := "fnExactRestsAfter", inPlace := ["internal/bytealg.IndexByteString", "internal/bytealg.IndexString", "internal/bytealg.abigen_runtime_cmpstring"], unfollowed := true, recurses := true, named := ["unicode/utf8.first", "unicode/utf8.acceptRanges", "internal/bytealg.MaxLen"], apart := false, laid := [("unicode/utf8.acceptRanges", laid_unicode_utf8_acceptRanges), ("unicode/utf8.first", laid_unicode_utf8_first)] }
def FnExactRestsAfterSaid : Prop := fnExactRestsAfterRow.holds Tryd.pinned (OpenSpec.ofChange fnExactRestsAfterSpec)

/-- ITS FALSE NEIGHBOUR: 'it returns false'. Refute it at one input. -/
def fnExactRestsAfterWrong : ChangeSpec := { name := "fnExactRestsAfter", fn := fun _ => fun
  | [d1, d2] => { results := [.lit (.bool false)], args := [d1, d2] }
  | _ => none }
def FnExactRestsAfterWrongFalsely : Prop := fnExactRestsAfterRow.holds Tryd.pinned (OpenSpec.ofChange fnExactRestsAfterWrong)

/-- 'laws.FnExactPairWaiting': WHATEVER THE INPUT: true; the input reads as it did. -/
def fnExactPairWaitingSpec : ChangeSpec := { name := "fnExactPairWaiting", fn := fun _ => fun
  | [d1, d2] => { results := [.lit (.bool true)], args := [d1, d2] }
  | _ => none }
def fnExactPairWaitingRow : OpenClaim := { program := "ytdhdboeflncmiaadoor", sum := "8fdd5d4154e1be0bc0a7997492bdcd6361694fece39df287dc6fda218118fdb7", func := "loop.example/g01164/laws.FnExactPairWaiting", spec := "fnExactPairWaiting", inPlace := ["internal/bytealg.IndexByteString", "internal/bytealg.IndexString", "internal/bytealg.abigen_runtime_cmpstring"], unfollowed := true, recurses := true, named := ["unicode/utf8.first", "unicode/utf8.acceptRanges", "internal/bytealg.MaxLen"], apart := false, laid := [("unicode/utf8.acceptRanges", laid_unicode_utf8_acceptRanges), ("unicode/utf8.first", laid_unicode_utf8_first)] }
def FnExactPairWaitingSaid : Prop := fnExactPairWaitingRow.holds Tryd.pinned (OpenSpec.ofChange fnExactPairWaitingSpec)

/-- ITS FALSE NEIGHBOUR: 'it returns false'. Refute it at one input. -/
def fnExactPairWaitingWrong : ChangeSpec := { name := "fnExactPairWaiting", fn := fun _ => fun
  | [d1, d2] => { results := [.lit (.bool false)], args := [d1, d2] }
  | _ => none }
def FnExactPairWaitingWrongFalsely : Prop := fnExactPairWaitingRow.holds Tryd.pinned (OpenSpec.ofChange fnExactPairWaitingWrong)

/- THE SECOND FORM. 'bulk': how many values and letters a reading holds, each counted each time it is reached (what is shared counts as often as it is met; a slice's spare places count too). A statement '..UptoSaid' is the law's where the arguments, and the package variables that the reading takes, are together of bulk at most 1048576: NARROWER than '..Said'. Prove '..Said' where nothing that the law and all that it calls make is longer than what came in: it says more and counts as full. Else prove '..UptoSaid'. A law counts once. -/
mutual
def uptoBulk {H : Type} : DataW H → Nat
  | .lit (.string bytes) => bytes.length + 1
  | .lit _ => 1
  | .nil => 1
  | .ptr d => uptoBulk d + 1
  | .slice elems spare => uptoBulkAll elems + uptoBulkAll spare + 1
  | .agg parts => uptoBulkAll parts + 1
  | .iface _ d => uptoBulk d + 1
  | .map entries => uptoBulkEntries entries + 1
  | .held _ => 1
def uptoBulkAll {H : Type} : List (DataW H) → Nat
  | [] => 0
  | d :: r => uptoBulk d + uptoBulkAll r
def uptoBulkEntries {H : Type} : List (Lit × DataW H) → Nat
  | [] => 0
  | x :: r => uptoBulkEntry x + uptoBulkEntries r
def uptoBulkEntry {H : Type} : Lit × DataW H → Nat
  | (.string bytes, d) => bytes.length + uptoBulk d + 1
  | (_, d) => uptoBulk d + 1
 end
def uptoSmall : (H : Type) → List (DataW H) → Bool := fun _ ds => decide (uptoBulkAll ds ≤ 1048576)
def OpenSpec.upto (s : _root_.Go.ChangeSpec) : _root_.Go.OpenSpec := { _root_.Go.OpenSpec.ofChange s with cond := some uptoSmall }

/-- 'laws.FnExactAreTurns', WHERE WHAT IT READS IS OF BULK AT MOST 1048576: true; the input reads as it did. -/
def fnExactAreTurnsUptoRow : OpenClaim := { program := "ytdhdboeflncmiaadoor", sum := "8fdd5d4154e1be0bc0a7997492bdcd6361694fece39df287dc6fda218118fdb7", func := "loop.example/g01164/laws.FnExactAreTurns", spec := "fnExactAreTurns", inPlace := ["internal/bytealg.IndexByteString", "internal/bytealg.IndexString", "internal/bytealg.abigen_runtime_cmpstring"], unfollowed := true, recurses := true, named := ["unicode/utf8.first", "unicode/utf8.acceptRanges", "internal/bytealg.MaxLen"], apart := false, laid := [("unicode/utf8.acceptRanges", laid_unicode_utf8_acceptRanges), ("unicode/utf8.first", laid_unicode_utf8_first)], narrowed := true }
def FnExactAreTurnsUptoSaid : Prop := fnExactAreTurnsUptoRow.holds Tryd.pinned (OpenSpec.upto fnExactAreTurnsSpec)

/-- 'laws.FnExactTurnsOf', WHERE WHAT IT READS IS OF BULK AT MOST 1048576: true; the input reads as it did. -/
def fnExactTurnsOfUptoRow : OpenClaim := { program := "ytdhdboeflncmiaadoor", sum := "8fdd5d4154e1be0bc0a7997492bdcd6361694fece39df287dc6fda218118fdb7", func := "loop.example/g01164/laws.FnExactTurnsOf", spec := "fnExactTurnsOf", inPlace := ["internal/bytealg.IndexByteString", "internal/bytealg.IndexString", "internal/bytealg.abigen_runtime_cmpstring"], unfollowed := true, recurses := true, named := ["unicode/utf8.first", "unicode/utf8.acceptRanges", "internal/bytealg.MaxLen"], apart := false, laid := [("unicode/utf8.acceptRanges", laid_unicode_utf8_acceptRanges), ("unicode/utf8.first", laid_unicode_utf8_first)], narrowed := true }
def FnExactTurnsOfUptoSaid : Prop := fnExactTurnsOfUptoRow.holds Tryd.pinned (OpenSpec.upto fnExactTurnsOfSpec)

/-- 'laws.FnExactWrittenUpTo', WHERE WHAT IT READS IS OF BULK AT MOST 1048576: true; the input reads as it did. -/
def fnExactWrittenUpToUptoRow : OpenClaim := { program := "ytdhdboeflncmiaadoor", sum := "8fdd5d4154e1be0bc0a7997492bdcd6361694fece39df287dc6fda218118fdb7", func := "loop.example/g01164/laws.FnExactWrittenUpTo", spec := "fnExactWrittenUpTo", inPlace := ["internal/bytealg.IndexByteString", "internal/bytealg.IndexString", "internal/bytealg.abigen_runtime_cmpstring"], unfollowed := true, recurses := true, named := ["unicode/utf8.first", "unicode/utf8.acceptRanges", "internal/bytealg.MaxLen"], apart := false, laid := [("unicode/utf8.acceptRanges", laid_unicode_utf8_acceptRanges), ("unicode/utf8.first", laid_unicode_utf8_first)], narrowed := true }
def FnExactWrittenUpToUptoSaid : Prop := fnExactWrittenUpToUptoRow.holds Tryd.pinned (OpenSpec.upto fnExactWrittenUpToSpec)

/-- 'laws.FnExactHasDelay', WHERE WHAT IT READS IS OF BULK AT MOST 1048576: true; the input reads as it did. -/
def fnExactHasDelayUptoRow : OpenClaim := { program := "ytdhdboeflncmiaadoor", sum := "8fdd5d4154e1be0bc0a7997492bdcd6361694fece39df287dc6fda218118fdb7", func := "loop.example/g01164/laws.FnExactHasDelay", spec := "fnExactHasDelay", inPlace := ["internal/bytealg.IndexByteString", "internal/bytealg.IndexString", "internal/bytealg.abigen_runtime_cmpstring"], unfollowed := true, recurses := true, named := ["unicode/utf8.first", "unicode/utf8.acceptRanges", "internal/bytealg.MaxLen"], apart := false, laid := [("unicode/utf8.acceptRanges", laid_unicode_utf8_acceptRanges), ("unicode/utf8.first", laid_unicode_utf8_first)], narrowed := true }
def FnExactHasDelayUptoSaid : Prop := fnExactHasDelayUptoRow.holds Tryd.pinned (OpenSpec.upto fnExactHasDelaySpec)

/-- 'laws.FnExactRestsAfter', WHERE WHAT IT READS IS OF BULK AT MOST 1048576: true; the input reads as it did. -/
def fnExactRestsAfterUptoRow : OpenClaim := { program := "ytdhdboeflncmiaadoor", sum := "8fdd5d4154e1be0bc0a7997492bdcd6361694fece39df287dc6fda218118fdb7", func := "loop.example/g01164/laws.FnExactRestsAfter", spec := "fnExactRestsAfter", inPlace := ["internal/bytealg.IndexByteString", "internal/bytealg.IndexString", "internal/bytealg.abigen_runtime_cmpstring"], unfollowed := true, recurses := true, named := ["unicode/utf8.first", "unicode/utf8.acceptRanges", "internal/bytealg.MaxLen"], apart := false, laid := [("unicode/utf8.acceptRanges", laid_unicode_utf8_acceptRanges), ("unicode/utf8.first", laid_unicode_utf8_first)], narrowed := true }
def FnExactRestsAfterUptoSaid : Prop := fnExactRestsAfterUptoRow.holds Tryd.pinned (OpenSpec.upto fnExactRestsAfterSpec)

/-- 'laws.FnExactPairWaiting', WHERE WHAT IT READS IS OF BULK AT MOST 1048576: true; the input reads as it did. -/
def fnExactPairWaitingUptoRow : OpenClaim := { program := "ytdhdboeflncmiaadoor", sum := "8fdd5d4154e1be0bc0a7997492bdcd6361694fece39df287dc6fda218118fdb7", func := "loop.example/g01164/laws.FnExactPairWaiting", spec := "fnExactPairWaiting", inPlace := ["internal/bytealg.IndexByteString", "internal/bytealg.IndexString", "internal/bytealg.abigen_runtime_cmpstring"], unfollowed := true, recurses := true, named := ["unicode/utf8.first", "unicode/utf8.acceptRanges", "internal/bytealg.MaxLen"], apart := false, laid := [("unicode/utf8.acceptRanges", laid_unicode_utf8_acceptRanges), ("unicode/utf8.first", laid_unicode_utf8_first)], narrowed := true }
def FnExactPairWaitingUptoSaid : Prop := fnExactPairWaitingUptoRow.holds Tryd.pinned (OpenSpec.upto fnExactPairWaitingSpec)

end Rows
end Go.Proofs.YtdhdboeflncmiaaDoor
