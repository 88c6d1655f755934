/-
  NARROWER THAN 'FOR EVERY INPUT', by the rows' own cells (each row's printed sentence says how): FnExactMeanLength: laid · FnExactWeightedSum: laid · FnExactFirstTooHeavy: laid · FnExactDecidedWords: laid · FnExactLetterCounts: laid · FnExactCountByLetters: laid.
  DERIVED. THE GIVEN ROWS OF THIS SEAT. 6 by the template 'for every input the law returns true; each argument reads behind the call as it read before'; 0 by the template 'total and deterministic' (their statements: YtkefjfpjnghkdaaDoorTotals.lean).
  GIVEN WITH THE SEED: the statements are not yours to turn. If you find one false, say at which input.
  Laid BY PROGRAM, IN A SANDBOX (cutbox-rows.mjs): the forced cells as the released guide's own fill.sh prints them over the translation 3de5a1404e43e5ce… (all of the seat's roots in one cut). By AI agents, Wed Nov 11 2026. No macro, syntax, notation, axiom, sorry.
-/
import Derived.Test.YtkefjfpjnghkdaaDoorChecked
import GoSem.PinnedTables
import GoSem.Claim
import GoSem.ClaimJoined
import GoSem.ClaimMapViews
import Derived.JoinedTies
import Derived.KernelRfl
namespace Go.Proofs.YtkefjfpjnghkdaaDoor
/- THE CELL 'sum', in the pinned program and in every row, IS THE sha256 OF THE DUMP (.gsa) THAT YtkefjfpjnghkdaaDoorProg.lean LOADS. Nothing in Lean hashes anything: it is a label: what it is worth is what the hold of that sum in a sandbox is worth. -/
noncomputable def Tryd.pinned : Pinned := { name := "ytkefjfpjnghkdaadoor", sum := "3de5a1404e43e5ce65366cbbaad43f8f0c3bc7593aed439ff3466ec2004b475a", checked := Tryd.checked }
namespace Rows
def none {H : Type} : Left H := { results := [], args := [] }

/- WHAT THE LISTED PACKAGE-LEVEL VARIABLES READ AS WHEN THE CALL BEGINS. Each datum BY PROGRAM (the guide's laid-datum.mjs) off the statement by which the dump's own 'gosem.cut.vars' lays the variable. In a bare row this is a premise. The card (YtkefjfpjnghkdaaDoorCards.lean) ties it to the program's text. -/
def laid_unicode_utf8_acceptRanges {H : Type} : DataW H := .agg [.agg [.lit (.int .u8 128), .lit (.int .u8 191)], .agg [.lit (.int .u8 160), .lit (.int .u8 191)], .agg [.lit (.int .u8 128), .lit (.int .u8 159)], .agg [.lit (.int .u8 144), .lit (.int .u8 191)], .agg [.lit (.int .u8 128), .lit (.int .u8 143)], .agg [.lit (.int .u8 0), .lit (.int .u8 0)], .agg [.lit (.int .u8 0), .lit (.int .u8 0)], .agg [.lit (.int .u8 0), .lit (.int .u8 0)], .agg [.lit (.int .u8 0), .lit (.int .u8 0)], .agg [.lit (.int .u8 0), .lit (.int .u8 0)], .agg [.lit (.int .u8 0), .lit (.int .u8 0)], .agg [.lit (.int .u8 0), .lit (.int .u8 0)], .agg [.lit (.int .u8 0), .lit (.int .u8 0)], .agg [.lit (.int .u8 0), .lit (.int .u8 0)], .agg [.lit (.int .u8 0), .lit (.int .u8 0)], .agg [.lit (.int .u8 0), .lit (.int .u8 0)]]
/-- One of Go's own tables, pinned by name: the form's constant. -/
def laid_unicode_utf8_first : DataW Unit := Go.Pinned.utf8First

/-- 'laws.FnExactMeanLength': WHATEVER THE INPUT: true; the input reads as it did. -/
def fnExactMeanLengthSpec : ChangeSpec := { name := "fnExactMeanLength", fn := fun _ => fun
  | [d1, d2] => { results := [.lit (.bool true)], args := [d1, d2] }
  | _ => none }
def fnExactMeanLengthRow : OpenClaim := { program := "ytkefjfpjnghkdaadoor", sum := "3de5a1404e43e5ce65366cbbaad43f8f0c3bc7593aed439ff3466ec2004b475a", func := "loop.example/g01164/laws.FnExactMeanLength", spec := "fnExactMeanLength", inPlace := ["internal/bytealg.IndexByteString", "internal/bytealg.IndexString", "internal/bytealg.abigen_runtime_cmpstring"], unfollowed := true, recurses := true, named := ["unicode/utf8.first", "unicode/utf8.acceptRanges", "internal/bytealg.MaxLen"], plainKeys := false, apart := false, laid := [("unicode/utf8.acceptRanges", laid_unicode_utf8_acceptRanges), ("unicode/utf8.first", laid_unicode_utf8_first)] }
def FnExactMeanLengthSaid : Prop := fnExactMeanLengthRow.holds Tryd.pinned (OpenSpec.ofChange fnExactMeanLengthSpec)

/-- ITS FALSE NEIGHBOUR: 'it returns false'. Refute it at one input. -/
def fnExactMeanLengthWrong : ChangeSpec := { name := "fnExactMeanLength", fn := fun _ => fun
  | [d1, d2] => { results := [.lit (.bool false)], args := [d1, d2] }
  | _ => none }
def FnExactMeanLengthWrongFalsely : Prop := fnExactMeanLengthRow.holds Tryd.pinned (OpenSpec.ofChange fnExactMeanLengthWrong)

/-- 'laws.FnExactWeightedSum': WHATEVER THE INPUT: true; the input reads as it did. -/
def fnExactWeightedSumSpec : ChangeSpec := { name := "fnExactWeightedSum", fn := fun _ => fun
  | [d1, d2] => { results := [.lit (.bool true)], args := [d1, d2] }
  | _ => none }
def fnExactWeightedSumRow : OpenClaim := { program := "ytkefjfpjnghkdaadoor", sum := "3de5a1404e43e5ce65366cbbaad43f8f0c3bc7593aed439ff3466ec2004b475a", func := "loop.example/g01164/laws.FnExactWeightedSum", spec := "fnExactWeightedSum", inPlace := ["internal/bytealg.IndexByteString", "internal/bytealg.IndexString", "internal/bytealg.abigen_runtime_cmpstring"], unfollowed := true, recurses := true, named := ["unicode/utf8.first", "unicode/utf8.acceptRanges", "internal/bytealg.MaxLen"], plainKeys := false, apart := false, laid := [("unicode/utf8.acceptRanges", laid_unicode_utf8_acceptRanges), ("unicode/utf8.first", laid_unicode_utf8_first)] }
def FnExactWeightedSumSaid : Prop := fnExactWeightedSumRow.holds Tryd.pinned (OpenSpec.ofChange fnExactWeightedSumSpec)

/-- ITS FALSE NEIGHBOUR: 'it returns false'. Refute it at one input. -/
def fnExactWeightedSumWrong : ChangeSpec := { name := "fnExactWeightedSum", fn := fun _ => fun
  | [d1, d2] => { results := [.lit (.bool false)], args := [d1, d2] }
  | _ => none }
def FnExactWeightedSumWrongFalsely : Prop := fnExactWeightedSumRow.holds Tryd.pinned (OpenSpec.ofChange fnExactWeightedSumWrong)

/-- 'laws.FnExactFirstTooHeavy': WHATEVER THE INPUT: true; the input reads as it did. -/
def fnExactFirstTooHeavySpec : ChangeSpec := { name := "fnExactFirstTooHeavy", fn := fun _ => fun
  | [d1, d2] => { results := [.lit (.bool true)], args := [d1, d2] }
  | _ => none }
def fnExactFirstTooHeavyRow : OpenClaim := { program := "ytkefjfpjnghkdaadoor", sum := "3de5a1404e43e5ce65366cbbaad43f8f0c3bc7593aed439ff3466ec2004b475a", func := "loop.example/g01164/laws.FnExactFirstTooHeavy", spec := "fnExactFirstTooHeavy", inPlace := ["internal/bytealg.IndexByteString", "internal/bytealg.IndexString", "internal/bytealg.abigen_runtime_cmpstring"], unfollowed := true, recurses := true, named := ["unicode/utf8.first", "unicode/utf8.acceptRanges", "internal/bytealg.MaxLen"], plainKeys := false, apart := false, laid := [("unicode/utf8.acceptRanges", laid_unicode_utf8_acceptRanges), ("unicode/utf8.first", laid_unicode_utf8_first)] }
def FnExactFirstTooHeavySaid : Prop := fnExactFirstTooHeavyRow.holds Tryd.pinned (OpenSpec.ofChange fnExactFirstTooHeavySpec)

/-- ITS FALSE NEIGHBOUR: 'it returns false'. Refute it at one input. -/
def fnExactFirstTooHeavyWrong : ChangeSpec := { name := "fnExactFirstTooHeavy", fn := fun _ => fun
  | [d1, d2] => { results := [.lit (.bool false)], args := [d1, d2] }
  | _ => none }
def FnExactFirstTooHeavyWrongFalsely : Prop := fnExactFirstTooHeavyRow.holds Tryd.pinned (OpenSpec.ofChange fnExactFirstTooHeavyWrong)

/-- 'laws.FnExactDecidedWords': WHATEVER THE INPUT: true; the input reads as it did. -/
def fnExactDecidedWordsSpec : ChangeSpec := { name := "fnExactDecidedWords", fn := fun _ => fun
  | [d1, d2] => { results := [.lit (.bool true)], args := [d1, d2] }
  | _ => none }
def fnExactDecidedWordsRow : OpenClaim := { program := "ytkefjfpjnghkdaadoor", sum := "3de5a1404e43e5ce65366cbbaad43f8f0c3bc7593aed439ff3466ec2004b475a", func := "loop.example/g01164/laws.FnExactDecidedWords", spec := "fnExactDecidedWords", inPlace := ["internal/bytealg.IndexByteString", "internal/bytealg.IndexString", "internal/bytealg.abigen_runtime_cmpstring"], unfollowed := true, recurses := true, named := ["unicode/utf8.first", "unicode/utf8.acceptRanges", "internal/bytealg.MaxLen"], plainKeys := false, apart := false, laid := [("unicode/utf8.acceptRanges", laid_unicode_utf8_acceptRanges), ("unicode/utf8.first", laid_unicode_utf8_first)] }
def FnExactDecidedWordsSaid : Prop := fnExactDecidedWordsRow.holds Tryd.pinned (OpenSpec.ofChange fnExactDecidedWordsSpec)

/-- ITS FALSE NEIGHBOUR: 'it returns false'. Refute it at one input. -/
def fnExactDecidedWordsWrong : ChangeSpec := { name := "fnExactDecidedWords", fn := fun _ => fun
  | [d1, d2] => { results := [.lit (.bool false)], args := [d1, d2] }
  | _ => none }
def FnExactDecidedWordsWrongFalsely : Prop := fnExactDecidedWordsRow.holds Tryd.pinned (OpenSpec.ofChange fnExactDecidedWordsWrong)

/-- 'laws.FnExactLetterCounts': WHATEVER THE INPUT: true; the input reads as it did. -/
def fnExactLetterCountsSpec : ChangeSpec := { name := "fnExactLetterCounts", fn := fun _ => fun
  | [d] => { results := [.lit (.bool true)], args := [d] }
  | _ => none }
def fnExactLetterCountsRow : OpenClaim := { program := "ytkefjfpjnghkdaadoor", sum := "3de5a1404e43e5ce65366cbbaad43f8f0c3bc7593aed439ff3466ec2004b475a", func := "loop.example/g01164/laws.FnExactLetterCounts", spec := "fnExactLetterCounts", inPlace := ["internal/bytealg.IndexByteString", "internal/bytealg.IndexString", "internal/bytealg.abigen_runtime_cmpstring", "internal/bytealg.CountString"], named := ["unicode/utf8.first", "unicode/utf8.acceptRanges", "internal/bytealg.MaxLen"], plainKeys := false, apart := false, laid := [("unicode/utf8.acceptRanges", laid_unicode_utf8_acceptRanges), ("unicode/utf8.first", laid_unicode_utf8_first)] }
def FnExactLetterCountsSaid : Prop := fnExactLetterCountsRow.holds Tryd.pinned (OpenSpec.ofChange fnExactLetterCountsSpec)

/-- ITS FALSE NEIGHBOUR: 'it returns false'. Refute it at one input. -/
def fnExactLetterCountsWrong : ChangeSpec := { name := "fnExactLetterCounts", fn := fun _ => fun
  | [d] => { results := [.lit (.bool false)], args := [d] }
  | _ => none }
def FnExactLetterCountsWrongFalsely : Prop := fnExactLetterCountsRow.holds Tryd.pinned (OpenSpec.ofChange fnExactLetterCountsWrong)

/-- 'laws.FnExactCountByLetters': WHATEVER THE INPUT: true; the input reads as it did. -/
def fnExactCountByLettersSpec : ChangeSpec := { name := "fnExactCountByLetters", fn := fun _ => fun
  | [d1, d2] => { results := [.lit (.bool true)], args := [d1, d2] }
  | _ => none }
def fnExactCountByLettersRow : OpenClaim := { program := "ytkefjfpjnghkdaadoor", sum := "3de5a1404e43e5ce65366cbbaad43f8f0c3bc7593aed439ff3466ec2004b475a", func := "loop.example/g01164/laws.FnExactCountByLetters", spec := "fnExactCountByLetters", inPlace := ["internal/bytealg.IndexByteString", "internal/bytealg.IndexString", "internal/bytealg.abigen_runtime_cmpstring", "internal/bytealg.CountString"], unfollowed := true, recurses := true, named := ["unicode/utf8.first", "unicode/utf8.acceptRanges", "internal/bytealg.MaxLen"], plainKeys := false, apart := false, laid := [("unicode/utf8.acceptRanges", laid_unicode_utf8_acceptRanges), ("unicode/utf8.first", laid_unicode_utf8_first)] }
def FnExactCountByLettersSaid : Prop := fnExactCountByLettersRow.holds Tryd.pinned (OpenSpec.ofChange fnExactCountByLettersSpec)

/-- ITS FALSE NEIGHBOUR: 'it returns false'. Refute it at one input. -/
def fnExactCountByLettersWrong : ChangeSpec := { name := "fnExactCountByLetters", fn := fun _ => fun
  | [d1, d2] => { results := [.lit (.bool false)], args := [d1, d2] }
  | _ => none }
def FnExactCountByLettersWrongFalsely : Prop := fnExactCountByLettersRow.holds Tryd.pinned (OpenSpec.ofChange fnExactCountByLettersWrong)

/- THE SECOND FORM. 'bulk': how many values and letters a reading holds, each counted each time it is reached (what is shared counts as often as it is met; a slice's spare places count too). A statement '..UptoSaid' is the law's where the arguments, and the package variables that the reading takes, are together of bulk at most 1048576: NARROWER than '..Said'. Prove '..Said' where nothing that the law and all that it calls make is longer than what came in: it says more and counts as full. Else prove '..UptoSaid'. A law counts once. -/
mutual
def uptoBulk {H : Type} : DataW H → Nat
  | .lit (.string bytes) => bytes.length + 1
  | .lit _ => 1
  | .nil => 1
  | .ptr d => uptoBulk d + 1
  | .slice elems spare => uptoBulkAll elems + uptoBulkAll spare + 1
  | .agg parts => uptoBulkAll parts + 1
  | .iface _ d => uptoBulk d + 1
  | .map entries => uptoBulkEntries entries + 1
  | .held _ => 1
def uptoBulkAll {H : Type} : List (DataW H) → Nat
  | [] => 0
  | d :: r => uptoBulk d + uptoBulkAll r
def uptoBulkEntries {H : Type} : List (Lit × DataW H) → Nat
  | [] => 0
  | x :: r => uptoBulkEntry x + uptoBulkEntries r
def uptoBulkEntry {H : Type} : Lit × DataW H → Nat
  | (.string bytes, d) => bytes.length + uptoBulk d + 1
  | (_, d) => uptoBulk d + 1
 end
def uptoSmall : (H : Type) → List (DataW H) → Bool := fun _ ds => decide (uptoBulkAll ds ≤ 1048576)
def OpenSpec.upto (s : _root_.Go.ChangeSpec) : _root_.Go.OpenSpec := { _root_.Go.OpenSpec.ofChange s with cond := some uptoSmall }

/-- 'laws.FnExactMeanLength', WHERE WHAT IT READS IS OF BULK AT MOST 1048576: true; the input reads as it did. -/
def fnExactMeanLengthUptoRow : OpenClaim := { program := "ytkefjfpjnghkdaadoor", sum := "3de5a1404e43e5ce65366cbbaad43f8f0c3bc7593aed439ff3466ec2004b475a", func := "loop.example/g01164/laws.FnExactMeanLength", spec := "fnExactMeanLength", inPlace := ["internal/bytealg.IndexByteString", "internal/bytealg.IndexString", "internal/bytealg.abigen_runtime_cmpstring"], unfollowed := true, recurses := true, named := ["unicode/utf8.first", "unicode/utf8.acceptRanges", "internal/bytealg.MaxLen"], plainKeys := false, apart := false, laid := [("unicode/utf8.acceptRanges", laid_unicode_utf8_acceptRanges), ("unicode/utf8.first", laid_unicode_utf8_first)], narrowed := true }
def FnExactMeanLengthUptoSaid : Prop := fnExactMeanLengthUptoRow.holds Tryd.pinned (OpenSpec.upto fnExactMeanLengthSpec)

/-- 'laws.FnExactWeightedSum', WHERE WHAT IT READS IS OF BULK AT MOST 1048576: true; the input reads as it did. -/
def fnExactWeightedSumUptoRow : OpenClaim := { program := "ytkefjfpjnghkdaadoor", sum := "3de5a1404e43e5ce65366cbbaad43f8f0c3bc7593aed439ff3466ec2004b475a", func := "loop.example/g01164/laws.FnExactWeightedSum", spec := "fnExactWeightedSum", inPlace := ["internal/bytealg.IndexByteString", "internal/bytealg.IndexString", "internal/bytealg.abigen_runtime_cmpstring"], unfollowed := true, recurses := true, named := ["unicode/utf8.first", "unicode/utf8.acceptRanges", "internal/bytealg.MaxLen"], plainKeys := false, apart := false, laid := [("unicode/utf8.acceptRanges", laid_unicode_utf8_acceptRanges), ("unicode/utf8.first", laid_unicode_utf8_first)], narrowed := true }
def FnExactWeightedSumUptoSaid : Prop := fnExactWeightedSumUptoRow.holds Tryd.pinned (OpenSpec.upto fnExactWeightedSumSpec)

/-- 'laws.FnExactFirstTooHeavy', WHERE WHAT IT READS IS OF BULK AT MOST 1048576: true; the input reads as it did. -/
def fnExactFirstTooHeavyUptoRow : OpenClaim := { program := "ytkefjfpjnghkdaadoor", sum := "3de5a1404e43e5ce65366cbbaad43f8f0c3bc7593aed439ff3466ec2004b475a", func := "loop.example/g01164/laws.FnExactFirstTooHeavy", spec := "fnExactFirstTooHeavy", inPlace := ["internal/bytealg.IndexByteString", "internal/bytealg.IndexString", "internal/bytealg.abigen_runtime_cmpstring"], unfollowed := true, recurses := true, named := ["unicode/utf8.first", "unicode/utf8.acceptRanges", "internal/bytealg.MaxLen"], plainKeys := false, apart := false, laid := [("unicode/utf8.acceptRanges", laid_unicode_utf8_acceptRanges), ("unicode/utf8.first", laid_unicode_utf8_first)], narrowed := true }
def FnExactFirstTooHeavyUptoSaid : Prop := fnExactFirstTooHeavyUptoRow.holds Tryd.pinned (OpenSpec.upto fnExactFirstTooHeavySpec)

/-- 'laws.FnExactDecidedWords', WHERE WHAT IT READS IS OF BULK AT MOST 1048576: true; the input reads as it did. -/
def fnExactDecidedWordsUptoRow : OpenClaim := { program := "ytkefjfpjnghkdaadoor", sum := "3de5a1404e43e5ce65366cbbaad43f8f0c3bc7593aed439ff3466ec2004b475a", func := "loop.example/g01164/laws.FnExactDecidedWords", spec := "fnExactDecidedWords", inPlace := ["internal/bytealg.IndexByteString", "internal/bytealg.IndexString", "internal/bytealg.abigen_runtime_cmpstring"], unfollowed := true, recurses := true, named := ["unicode/utf8.first", "unicode/utf8.acceptRanges", "internal/bytealg.MaxLen"], plainKeys := false, apart := false, laid := [("unicode/utf8.acceptRanges", laid_unicode_utf8_acceptRanges), ("unicode/utf8.first", laid_unicode_utf8_first)], narrowed := true }
def FnExactDecidedWordsUptoSaid : Prop := fnExactDecidedWordsUptoRow.holds Tryd.pinned (OpenSpec.upto fnExactDecidedWordsSpec)

/-- 'laws.FnExactLetterCounts', WHERE WHAT IT READS IS OF BULK AT MOST 1048576: true; the input reads as it did. -/
def fnExactLetterCountsUptoRow : OpenClaim := { program := "ytkefjfpjnghkdaadoor", sum := "3de5a1404e43e5ce65366cbbaad43f8f0c3bc7593aed439ff3466ec2004b475a", func := "loop.example/g01164/laws.FnExactLetterCounts", spec := "fnExactLetterCounts", inPlace := ["internal/bytealg.IndexByteString", "internal/bytealg.IndexString", "internal/bytealg.abigen_runtime_cmpstring", "internal/bytealg.CountString"], named := ["unicode/utf8.first", "unicode/utf8.acceptRanges", "internal/bytealg.MaxLen"], plainKeys := false, apart := false, laid := [("unicode/utf8.acceptRanges", laid_unicode_utf8_acceptRanges), ("unicode/utf8.first", laid_unicode_utf8_first)], narrowed := true }
def FnExactLetterCountsUptoSaid : Prop := fnExactLetterCountsUptoRow.holds Tryd.pinned (OpenSpec.upto fnExactLetterCountsSpec)

/-- 'laws.FnExactCountByLetters', WHERE WHAT IT READS IS OF BULK AT MOST 1048576: true; the input reads as it did. -/
def fnExactCountByLettersUptoRow : OpenClaim := { program := "ytkefjfpjnghkdaadoor", sum := "3de5a1404e43e5ce65366cbbaad43f8f0c3bc7593aed439ff3466ec2004b475a", func := "loop.example/g01164/laws.FnExactCountByLetters", spec := "fnExactCountByLetters", inPlace := ["internal/bytealg.IndexByteString", "internal/bytealg.IndexString", "internal/bytealg.abigen_runtime_cmpstring", "internal/bytealg.CountString"], unfollowed := true, recurses := true, named := ["unicode/utf8.first", "unicode/utf8.acceptRanges", "internal/bytealg.MaxLen"], plainKeys := false, apart := false, laid := [("unicode/utf8.acceptRanges", laid_unicode_utf8_acceptRanges), ("unicode/utf8.first", laid_unicode_utf8_first)], narrowed := true }
def FnExactCountByLettersUptoSaid : Prop := fnExactCountByLettersUptoRow.holds Tryd.pinned (OpenSpec.upto fnExactCountByLettersSpec)

end Rows
end Go.Proofs.YtkefjfpjnghkdaaDoor
