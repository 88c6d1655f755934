/-
  No cell of these rows narrows 'for every input' (looked for: loops, veiled, ifaces, maps, wideKeys, modest, calm, conditions, laid).
  DERIVED. THE GIVEN ROWS OF THIS SEAT. 5 by the template 'for every input the law returns true; each argument reads behind the call as it read before'; 0 by the template 'total and deterministic' (their statements: YtejngeeafagbpaaTotals.lean).
  GIVEN WITH THE SEED: the statements are not yours to turn. If you find one false, say at which input.
  Laid BY PROGRAM, IN A SANDBOX (cutbox-rows.mjs): the forced cells as the released guide's own fill.sh prints them over the translation 9dc108f984d26f76… (all of the seat's roots in one cut). By AI agents, Wed Nov 11 2026. No macro, syntax, notation, axiom, sorry.
-/
import Derived.Test.YtejngeeafagbpaaChecked
import GoSem.Claim
import GoSem.ClaimJoined
import GoSem.ClaimMapViews
import Derived.JoinedTies
import Derived.KernelRfl
namespace Go.Proofs.Ytejngeeafagbpaa
/- THE CELL 'sum', in the pinned program and in every row, IS THE sha256 OF THE DUMP (.gsa) THAT YtejngeeafagbpaaProg.lean LOADS. Nothing in Lean hashes anything: it is a label: what it is worth is what the hold of that sum in a sandbox is worth. -/
noncomputable def Try.pinned : Pinned := { name := "ytejngeeafagbpaa", sum := "9dc108f984d26f76a2093f5478893fcec49b64489be4c02f77edf226f3c570eb", checked := Try.checked }
namespace Rows
def none {H : Type} : Left H := { results := [], args := [] }

/-- 'laws.FnExactOrderedWords': WHATEVER THE INPUT: true; the input reads as it did. -/
def fnExactOrderedWordsSpec : ChangeSpec := { name := "fnExactOrderedWords", fn := fun _ => fun
  | [d] => { results := [.lit (.bool true)], args := [d] }
  | _ => none }
def fnExactOrderedWordsRow : OpenClaim := { program := "ytejngeeafagbpaa", sum := "9dc108f984d26f76a2093f5478893fcec49b64489be4c02f77edf226f3c570eb", func := "loop.example/g01164/laws.FnExactOrderedWords", spec := "fnExactOrderedWords", unfollowed := true, recurses := true, apart := false }
def FnExactOrderedWordsSaid : Prop := fnExactOrderedWordsRow.holds Try.pinned (OpenSpec.ofChange fnExactOrderedWordsSpec)

/-- ITS FALSE NEIGHBOUR: 'it returns false'. Refute it at one input. -/
def fnExactOrderedWordsWrong : ChangeSpec := { name := "fnExactOrderedWords", fn := fun _ => fun
  | [d] => { results := [.lit (.bool false)], args := [d] }
  | _ => none }
def FnExactOrderedWordsWrongFalsely : Prop := fnExactOrderedWordsRow.holds Try.pinned (OpenSpec.ofChange fnExactOrderedWordsWrong)

/-- 'laws.FnExactOrderedLengths': WHATEVER THE INPUT: true; the input reads as it did. -/
def fnExactOrderedLengthsSpec : ChangeSpec := { name := "fnExactOrderedLengths", fn := fun _ => fun
  | [d] => { results := [.lit (.bool true)], args := [d] }
  | _ => none }
def fnExactOrderedLengthsRow : OpenClaim := { program := "ytejngeeafagbpaa", sum := "9dc108f984d26f76a2093f5478893fcec49b64489be4c02f77edf226f3c570eb", func := "loop.example/g01164/laws.FnExactOrderedLengths", spec := "fnExactOrderedLengths", unfollowed := true, recurses := true, apart := false }
def FnExactOrderedLengthsSaid : Prop := fnExactOrderedLengthsRow.holds Try.pinned (OpenSpec.ofChange fnExactOrderedLengthsSpec)

/-- ITS FALSE NEIGHBOUR: 'it returns false'. Refute it at one input. -/
def fnExactOrderedLengthsWrong : ChangeSpec := { name := "fnExactOrderedLengths", fn := fun _ => fun
  | [d] => { results := [.lit (.bool false)], args := [d] }
  | _ => none }
def FnExactOrderedLengthsWrongFalsely : Prop := fnExactOrderedLengthsRow.holds Try.pinned (OpenSpec.ofChange fnExactOrderedLengthsWrong)

/-- 'laws.FnExactMergeRun': WHATEVER THE INPUT: true; the input reads as it did. -/
def fnExactMergeRunSpec : ChangeSpec := { name := "fnExactMergeRun", fn := fun _ => fun
  | [d1, d2] => { results := [.lit (.bool true)], args := [d1, d2] }
  | _ => none }
def fnExactMergeRunRow : OpenClaim := { program := "ytejngeeafagbpaa", sum := "9dc108f984d26f76a2093f5478893fcec49b64489be4c02f77edf226f3c570eb", func := "loop.example/g01164/laws.FnExactMergeRun", spec := "fnExactMergeRun", unfollowed := true, recurses := true, apart := false }
def FnExactMergeRunSaid : Prop := fnExactMergeRunRow.holds Try.pinned (OpenSpec.ofChange fnExactMergeRunSpec)

/-- ITS FALSE NEIGHBOUR: 'it returns false'. Refute it at one input. -/
def fnExactMergeRunWrong : ChangeSpec := { name := "fnExactMergeRun", fn := fun _ => fun
  | [d1, d2] => { results := [.lit (.bool false)], args := [d1, d2] }
  | _ => none }
def FnExactMergeRunWrongFalsely : Prop := fnExactMergeRunRow.holds Try.pinned (OpenSpec.ofChange fnExactMergeRunWrong)

/-- 'laws.FnExactBestCost': WHATEVER THE INPUT: true; the input reads as it did. -/
def fnExactBestCostSpec : ChangeSpec := { name := "fnExactBestCost", fn := fun _ => fun
  | [d1, d2] => { results := [.lit (.bool true)], args := [d1, d2] }
  | _ => none }
def fnExactBestCostRow : OpenClaim := { program := "ytejngeeafagbpaa", sum := "9dc108f984d26f76a2093f5478893fcec49b64489be4c02f77edf226f3c570eb", func := "loop.example/g01164/laws.FnExactBestCost", spec := "fnExactBestCost", unfollowed := true, recurses := true, apart := false }
def FnExactBestCostSaid : Prop := fnExactBestCostRow.holds Try.pinned (OpenSpec.ofChange fnExactBestCostSpec)

/-- ITS FALSE NEIGHBOUR: 'it returns false'. Refute it at one input. -/
def fnExactBestCostWrong : ChangeSpec := { name := "fnExactBestCost", fn := fun _ => fun
  | [d1, d2] => { results := [.lit (.bool false)], args := [d1, d2] }
  | _ => none }
def FnExactBestCostWrongFalsely : Prop := fnExactBestCostRow.holds Try.pinned (OpenSpec.ofChange fnExactBestCostWrong)

/-- 'laws.FnExactCountTurnedWords': WHATEVER THE INPUT: true; the input reads as it did. -/
def fnExactCountTurnedWordsSpec : ChangeSpec := { name := "fnExactCountTurnedWords", fn := fun _ => fun
  | [d1, d2] => { results := [.lit (.bool true)], args := [d1, d2] }
  | _ => none }
def fnExactCountTurnedWordsRow : OpenClaim := { program := "ytejngeeafagbpaa", sum := "9dc108f984d26f76a2093f5478893fcec49b64489be4c02f77edf226f3c570eb", func := "loop.example/g01164/laws.FnExactCountTurnedWords", spec := "fnExactCountTurnedWords", inPlace := ["internal/bytealg.abigen_runtime_cmpstring"], unfollowed := true, recurses := true, apart := false }
def FnExactCountTurnedWordsSaid : Prop := fnExactCountTurnedWordsRow.holds Try.pinned (OpenSpec.ofChange fnExactCountTurnedWordsSpec)

/-- ITS FALSE NEIGHBOUR: 'it returns false'. Refute it at one input. -/
def fnExactCountTurnedWordsWrong : ChangeSpec := { name := "fnExactCountTurnedWords", fn := fun _ => fun
  | [d1, d2] => { results := [.lit (.bool false)], args := [d1, d2] }
  | _ => none }
def FnExactCountTurnedWordsWrongFalsely : Prop := fnExactCountTurnedWordsRow.holds Try.pinned (OpenSpec.ofChange fnExactCountTurnedWordsWrong)

/- THE SECOND FORM. 'bulk': how many values and letters a reading holds, each counted each time it is reached (what is shared counts as often as it is met; a slice's spare places count too). A statement '..UptoSaid' is the law's where the arguments, and the package variables that the reading takes, are together of bulk at most 1048576: NARROWER than '..Said'. Prove '..Said' where nothing that the law and all that it calls make is longer than what came in: it says more and counts as full. Else prove '..UptoSaid'. A law counts once. -/
mutual
def uptoBulk {H : Type} : DataW H → Nat
  | .lit (.string bytes) => bytes.length + 1
  | .lit _ => 1
  | .nil => 1
  | .ptr d => uptoBulk d + 1
  | .slice elems spare => uptoBulkAll elems + uptoBulkAll spare + 1
  | .agg parts => uptoBulkAll parts + 1
  | .iface _ d => uptoBulk d + 1
  | .map entries => uptoBulkEntries entries + 1
  | .held _ => 1
def uptoBulkAll {H : Type} : List (DataW H) → Nat
  | [] => 0
  | d :: r => uptoBulk d + uptoBulkAll r
def uptoBulkEntries {H : Type} : List (Lit × DataW H) → Nat
  | [] => 0
  | x :: r => uptoBulkEntry x + uptoBulkEntries r
def uptoBulkEntry {H : Type} : Lit × DataW H → Nat
  | (.string bytes, d) => bytes.length + uptoBulk d + 1
  | (_, d) => uptoBulk d + 1
 end
def uptoSmall : (H : Type) → List (DataW H) → Bool := fun _ ds => decide (uptoBulkAll ds ≤ 1048576)
def OpenSpec.upto (s : _root_.Go.ChangeSpec) : _root_.Go.OpenSpec := { _root_.Go.OpenSpec.ofChange s with cond := some uptoSmall }

/-- 'laws.FnExactOrderedWords', WHERE WHAT IT READS IS OF BULK AT MOST 1048576: true; the input reads as it did. -/
def fnExactOrderedWordsUptoRow : OpenClaim := { program := "ytejngeeafagbpaa", sum := "9dc108f984d26f76a2093f5478893fcec49b64489be4c02f77edf226f3c570eb", func := "loop.example/g01164/laws.FnExactOrderedWords", spec := "fnExactOrderedWords", unfollowed := true, recurses := true, apart := false, narrowed := true }
def FnExactOrderedWordsUptoSaid : Prop := fnExactOrderedWordsUptoRow.holds Try.pinned (OpenSpec.upto fnExactOrderedWordsSpec)

/-- 'laws.FnExactOrderedLengths', WHERE WHAT IT READS IS OF BULK AT MOST 1048576: true; the input reads as it did. -/
def fnExactOrderedLengthsUptoRow : OpenClaim := { program := "ytejngeeafagbpaa", sum := "9dc108f984d26f76a2093f5478893fcec49b64489be4c02f77edf226f3c570eb", func := "loop.example/g01164/laws.FnExactOrderedLengths", spec := "fnExactOrderedLengths", unfollowed := true, recurses := true, apart := false, narrowed := true }
def FnExactOrderedLengthsUptoSaid : Prop := fnExactOrderedLengthsUptoRow.holds Try.pinned (OpenSpec.upto fnExactOrderedLengthsSpec)

/-- 'laws.FnExactMergeRun', WHERE WHAT IT READS IS OF BULK AT MOST 1048576: true; the input reads as it did. -/
def fnExactMergeRunUptoRow : OpenClaim := { program := "ytejngeeafagbpaa", sum := "9dc108f984d26f76a2093f5478893fcec49b64489be4c02f77edf226f3c570eb", func := "loop.example/g01164/laws.FnExactMergeRun", spec := "fnExactMergeRun", unfollowed := true, recurses := true, apart := false, narrowed := true }
def FnExactMergeRunUptoSaid : Prop := fnExactMergeRunUptoRow.holds Try.pinned (OpenSpec.upto fnExactMergeRunSpec)

/-- 'laws.FnExactBestCost', WHERE WHAT IT READS IS OF BULK AT MOST 1048576: true; the input reads as it did. -/
def fnExactBestCostUptoRow : OpenClaim := { program := "ytejngeeafagbpaa", sum := "9dc108f984d26f76a2093f5478893fcec49b64489be4c02f77edf226f3c570eb", func := "loop.example/g01164/laws.FnExactBestCost", spec := "fnExactBestCost", unfollowed := true, recurses := true, apart := false, narrowed := true }
def FnExactBestCostUptoSaid : Prop := fnExactBestCostUptoRow.holds Try.pinned (OpenSpec.upto fnExactBestCostSpec)

/-- 'laws.FnExactCountTurnedWords', WHERE WHAT IT READS IS OF BULK AT MOST 1048576: true; the input reads as it did. -/
def fnExactCountTurnedWordsUptoRow : OpenClaim := { program := "ytejngeeafagbpaa", sum := "9dc108f984d26f76a2093f5478893fcec49b64489be4c02f77edf226f3c570eb", func := "loop.example/g01164/laws.FnExactCountTurnedWords", spec := "fnExactCountTurnedWords", inPlace := ["internal/bytealg.abigen_runtime_cmpstring"], unfollowed := true, recurses := true, apart := false, narrowed := true }
def FnExactCountTurnedWordsUptoSaid : Prop := fnExactCountTurnedWordsUptoRow.holds Try.pinned (OpenSpec.upto fnExactCountTurnedWordsSpec)

end Rows
end Go.Proofs.Ytejngeeafagbpaa
