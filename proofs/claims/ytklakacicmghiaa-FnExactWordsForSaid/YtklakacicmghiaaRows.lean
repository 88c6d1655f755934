/-
  No cell of these rows narrows 'for every input' (looked for: loops, veiled, ifaces, maps, wideKeys, modest, calm, conditions, laid).
  DERIVED. THE GIVEN ROWS OF THIS SEAT. 9 by the template 'for every input the law returns true; each argument reads behind the call as it read before'; 0 by the template 'total and deterministic' (their statements: YtklakacicmghiaaTotals.lean).
  GIVEN WITH THE SEED: the statements are not yours to turn. If you find one false, say at which input.
  Laid BY PROGRAM, IN A SANDBOX (cutbox-rows.mjs): the forced cells as the released guide's own fill.sh prints them over the translation 4c70dbca6e925863… (all of the seat's roots in one cut). By AI agents, Wed Nov 11 2026. No macro, syntax, notation, axiom, sorry.
-/
import Derived.Test.YtklakacicmghiaaChecked
import GoSem.Claim
import GoSem.ClaimJoined
import GoSem.ClaimMapViews
import Derived.JoinedTies
import Derived.KernelRfl
namespace Go.Proofs.Ytklakacicmghiaa
/- THE CELL 'sum', in the pinned program and in every row, IS THE sha256 OF THE DUMP (.gsa) THAT YtklakacicmghiaaProg.lean LOADS. Nothing in Lean hashes anything: it is a label: what it is worth is what the hold of that sum in a sandbox is worth. -/
noncomputable def Try.pinned : Pinned := { name := "ytklakacicmghiaa", sum := "4c70dbca6e9258637db6fc014ad928f80ff01912733f3bbb714ab6fae35be23c", checked := Try.checked }
namespace Rows
def none {H : Type} : Left H := { results := [], args := [] }

/-- 'laws.FnExactOrderedLengths': WHATEVER THE INPUT: true; the input reads as it did. -/
def fnExactOrderedLengthsSpec : ChangeSpec := { name := "fnExactOrderedLengths", fn := fun _ => fun
  | [d] => { results := [.lit (.bool true)], args := [d] }
  | _ => none }
def fnExactOrderedLengthsRow : OpenClaim := { program := "ytklakacicmghiaa", sum := "4c70dbca6e9258637db6fc014ad928f80ff01912733f3bbb714ab6fae35be23c", func := "loop.example/g01164/laws.FnExactOrderedLengths", spec := "fnExactOrderedLengths", unfollowed := true, recurses := true, plainKeys := false, apart := false }
def FnExactOrderedLengthsSaid : Prop := fnExactOrderedLengthsRow.holds Try.pinned (OpenSpec.ofChange fnExactOrderedLengthsSpec)

/-- ITS FALSE NEIGHBOUR: 'it returns false'. Refute it at one input. -/
def fnExactOrderedLengthsWrong : ChangeSpec := { name := "fnExactOrderedLengths", fn := fun _ => fun
  | [d] => { results := [.lit (.bool false)], args := [d] }
  | _ => none }
def FnExactOrderedLengthsWrongFalsely : Prop := fnExactOrderedLengthsRow.holds Try.pinned (OpenSpec.ofChange fnExactOrderedLengthsWrong)

/-- 'laws.FnExactMergeRun': WHATEVER THE INPUT: true; the input reads as it did. -/
def fnExactMergeRunSpec : ChangeSpec := { name := "fnExactMergeRun", fn := fun _ => fun
  | [d1, d2] => { results := [.lit (.bool true)], args := [d1, d2] }
  | _ => none }
def fnExactMergeRunRow : OpenClaim := { program := "ytklakacicmghiaa", sum := "4c70dbca6e9258637db6fc014ad928f80ff01912733f3bbb714ab6fae35be23c", func := "loop.example/g01164/laws.FnExactMergeRun", spec := "fnExactMergeRun", unfollowed := true, recurses := true, plainKeys := false, apart := false }
def FnExactMergeRunSaid : Prop := fnExactMergeRunRow.holds Try.pinned (OpenSpec.ofChange fnExactMergeRunSpec)

/-- ITS FALSE NEIGHBOUR: 'it returns false'. Refute it at one input. -/
def fnExactMergeRunWrong : ChangeSpec := { name := "fnExactMergeRun", fn := fun _ => fun
  | [d1, d2] => { results := [.lit (.bool false)], args := [d1, d2] }
  | _ => none }
def FnExactMergeRunWrongFalsely : Prop := fnExactMergeRunRow.holds Try.pinned (OpenSpec.ofChange fnExactMergeRunWrong)

/-- 'laws.FnExactBestCost': WHATEVER THE INPUT: true; the input reads as it did. -/
def fnExactBestCostSpec : ChangeSpec := { name := "fnExactBestCost", fn := fun _ => fun
  | [d1, d2] => { results := [.lit (.bool true)], args := [d1, d2] }
  | _ => none }
def fnExactBestCostRow : OpenClaim := { program := "ytklakacicmghiaa", sum := "4c70dbca6e9258637db6fc014ad928f80ff01912733f3bbb714ab6fae35be23c", func := "loop.example/g01164/laws.FnExactBestCost", spec := "fnExactBestCost", unfollowed := true, recurses := true, plainKeys := false, apart := false }
def FnExactBestCostSaid : Prop := fnExactBestCostRow.holds Try.pinned (OpenSpec.ofChange fnExactBestCostSpec)

/-- ITS FALSE NEIGHBOUR: 'it returns false'. Refute it at one input. -/
def fnExactBestCostWrong : ChangeSpec := { name := "fnExactBestCost", fn := fun _ => fun
  | [d1, d2] => { results := [.lit (.bool false)], args := [d1, d2] }
  | _ => none }
def FnExactBestCostWrongFalsely : Prop := fnExactBestCostRow.holds Try.pinned (OpenSpec.ofChange fnExactBestCostWrong)

/-- 'laws.FnExactBestWithin': WHATEVER THE INPUT: true; the input reads as it did. -/
def fnExactBestWithinSpec : ChangeSpec := { name := "fnExactBestWithin", fn := fun _ => fun
  | [d1, d2, d3] => { results := [.lit (.bool true)], args := [d1, d2, d3] }
  | _ => none }
def fnExactBestWithinRow : OpenClaim := { program := "ytklakacicmghiaa", sum := "4c70dbca6e9258637db6fc014ad928f80ff01912733f3bbb714ab6fae35be23c", func := "loop.example/g01164/laws.FnExactBestWithin", spec := "fnExactBestWithin", unfollowed := true, recurses := true, plainKeys := false, apart := false }
def FnExactBestWithinSaid : Prop := fnExactBestWithinRow.holds Try.pinned (OpenSpec.ofChange fnExactBestWithinSpec)

/-- ITS FALSE NEIGHBOUR: 'it returns false'. Refute it at one input. -/
def fnExactBestWithinWrong : ChangeSpec := { name := "fnExactBestWithin", fn := fun _ => fun
  | [d1, d2, d3] => { results := [.lit (.bool false)], args := [d1, d2, d3] }
  | _ => none }
def FnExactBestWithinWrongFalsely : Prop := fnExactBestWithinRow.holds Try.pinned (OpenSpec.ofChange fnExactBestWithinWrong)

/-- 'laws.FnExactAreBest': WHATEVER THE INPUT: true; the input reads as it did. -/
def fnExactAreBestSpec : ChangeSpec := { name := "fnExactAreBest", fn := fun _ => fun
  | [d1, d2, d3] => { results := [.lit (.bool true)], args := [d1, d2, d3] }
  | _ => none }
def fnExactAreBestRow : OpenClaim := { program := "ytklakacicmghiaa", sum := "4c70dbca6e9258637db6fc014ad928f80ff01912733f3bbb714ab6fae35be23c", func := "loop.example/g01164/laws.FnExactAreBest", spec := "fnExactAreBest", unfollowed := true, recurses := true, plainKeys := false, apart := false }
def FnExactAreBestSaid : Prop := fnExactAreBestRow.holds Try.pinned (OpenSpec.ofChange fnExactAreBestSpec)

/-- ITS FALSE NEIGHBOUR: 'it returns false'. Refute it at one input. -/
def fnExactAreBestWrong : ChangeSpec := { name := "fnExactAreBest", fn := fun _ => fun
  | [d1, d2, d3] => { results := [.lit (.bool false)], args := [d1, d2, d3] }
  | _ => none }
def FnExactAreBestWrongFalsely : Prop := fnExactAreBestRow.holds Try.pinned (OpenSpec.ofChange fnExactAreBestWrong)

/-- 'laws.FnExactCountBest': WHATEVER THE INPUT: true; the input reads as it did. -/
def fnExactCountBestSpec : ChangeSpec := { name := "fnExactCountBest", fn := fun _ => fun
  | [d1, d2] => { results := [.lit (.bool true)], args := [d1, d2] }
  | _ => none }
def fnExactCountBestRow : OpenClaim := { program := "ytklakacicmghiaa", sum := "4c70dbca6e9258637db6fc014ad928f80ff01912733f3bbb714ab6fae35be23c", func := "loop.example/g01164/laws.FnExactCountBest", spec := "fnExactCountBest", unfollowed := true, recurses := true, plainKeys := false, apart := false }
def FnExactCountBestSaid : Prop := fnExactCountBestRow.holds Try.pinned (OpenSpec.ofChange fnExactCountBestSpec)

/-- ITS FALSE NEIGHBOUR: 'it returns false'. Refute it at one input. -/
def fnExactCountBestWrong : ChangeSpec := { name := "fnExactCountBest", fn := fun _ => fun
  | [d1, d2] => { results := [.lit (.bool false)], args := [d1, d2] }
  | _ => none }
def FnExactCountBestWrongFalsely : Prop := fnExactCountBestRow.holds Try.pinned (OpenSpec.ofChange fnExactCountBestWrong)

/-- 'laws.FnExactFirstBest': WHATEVER THE INPUT: true; the input reads as it did. -/
def fnExactFirstBestSpec : ChangeSpec := { name := "fnExactFirstBest", fn := fun _ => fun
  | [d1, d2] => { results := [.lit (.bool true)], args := [d1, d2] }
  | _ => none }
def fnExactFirstBestRow : OpenClaim := { program := "ytklakacicmghiaa", sum := "4c70dbca6e9258637db6fc014ad928f80ff01912733f3bbb714ab6fae35be23c", func := "loop.example/g01164/laws.FnExactFirstBest", spec := "fnExactFirstBest", unfollowed := true, recurses := true, plainKeys := false, apart := false }
def FnExactFirstBestSaid : Prop := fnExactFirstBestRow.holds Try.pinned (OpenSpec.ofChange fnExactFirstBestSpec)

/-- ITS FALSE NEIGHBOUR: 'it returns false'. Refute it at one input. -/
def fnExactFirstBestWrong : ChangeSpec := { name := "fnExactFirstBest", fn := fun _ => fun
  | [d1, d2] => { results := [.lit (.bool false)], args := [d1, d2] }
  | _ => none }
def FnExactFirstBestWrongFalsely : Prop := fnExactFirstBestRow.holds Try.pinned (OpenSpec.ofChange fnExactFirstBestWrong)

/-- 'laws.FnExactWordsFor': WHATEVER THE INPUT: true; the input reads as it did. -/
def fnExactWordsForSpec : ChangeSpec := { name := "fnExactWordsFor", fn := fun _ => fun
  | [d1, d2] => { results := [.lit (.bool true)], args := [d1, d2] }
  | _ => none }
def fnExactWordsForRow : OpenClaim := { program := "ytklakacicmghiaa", sum := "4c70dbca6e9258637db6fc014ad928f80ff01912733f3bbb714ab6fae35be23c", func := "loop.example/g01164/laws.FnExactWordsFor", spec := "fnExactWordsFor", unfollowed := true, recurses := true, plainKeys := false, apart := false }
def FnExactWordsForSaid : Prop := fnExactWordsForRow.holds Try.pinned (OpenSpec.ofChange fnExactWordsForSpec)

/-- ITS FALSE NEIGHBOUR: 'it returns false'. Refute it at one input. -/
def fnExactWordsForWrong : ChangeSpec := { name := "fnExactWordsFor", fn := fun _ => fun
  | [d1, d2] => { results := [.lit (.bool false)], args := [d1, d2] }
  | _ => none }
def FnExactWordsForWrongFalsely : Prop := fnExactWordsForRow.holds Try.pinned (OpenSpec.ofChange fnExactWordsForWrong)

/-- 'laws.FnOrderedCodes': WHATEVER THE INPUT: true; the input reads as it did. -/
def fnOrderedCodesSpec : ChangeSpec := { name := "fnOrderedCodes", fn := fun _ => fun
  | [d1, d2] => { results := [.lit (.bool true)], args := [d1, d2] }
  | _ => none }
def fnOrderedCodesRow : OpenClaim := { program := "ytklakacicmghiaa", sum := "4c70dbca6e9258637db6fc014ad928f80ff01912733f3bbb714ab6fae35be23c", func := "loop.example/g01164/laws.FnOrderedCodes", spec := "fnOrderedCodes", unfollowed := true, recurses := true, plainKeys := false, apart := false }
def FnOrderedCodesSaid : Prop := fnOrderedCodesRow.holds Try.pinned (OpenSpec.ofChange fnOrderedCodesSpec)

/-- ITS FALSE NEIGHBOUR: 'it returns false'. Refute it at one input. -/
def fnOrderedCodesWrong : ChangeSpec := { name := "fnOrderedCodes", fn := fun _ => fun
  | [d1, d2] => { results := [.lit (.bool false)], args := [d1, d2] }
  | _ => none }
def FnOrderedCodesWrongFalsely : Prop := fnOrderedCodesRow.holds Try.pinned (OpenSpec.ofChange fnOrderedCodesWrong)

/- THE SECOND FORM. 'bulk': how many values and letters a reading holds, each counted each time it is reached (what is shared counts as often as it is met; a slice's spare places count too). A statement '..UptoSaid' is the law's where the arguments, and the package variables that the reading takes, are together of bulk at most 1048576: NARROWER than '..Said'. Prove '..Said' where nothing that the law and all that it calls make is longer than what came in: it says more and counts as full. Else prove '..UptoSaid'. A law counts once. -/
mutual
def uptoBulk {H : Type} : DataW H → Nat
  | .lit (.string bytes) => bytes.length + 1
  | .lit _ => 1
  | .nil => 1
  | .ptr d => uptoBulk d + 1
  | .slice elems spare => uptoBulkAll elems + uptoBulkAll spare + 1
  | .agg parts => uptoBulkAll parts + 1
  | .iface _ d => uptoBulk d + 1
  | .map entries => uptoBulkEntries entries + 1
  | .held _ => 1
def uptoBulkAll {H : Type} : List (DataW H) → Nat
  | [] => 0
  | d :: r => uptoBulk d + uptoBulkAll r
def uptoBulkEntries {H : Type} : List (Lit × DataW H) → Nat
  | [] => 0
  | x :: r => uptoBulkEntry x + uptoBulkEntries r
def uptoBulkEntry {H : Type} : Lit × DataW H → Nat
  | (.string bytes, d) => bytes.length + uptoBulk d + 1
  | (_, d) => uptoBulk d + 1
 end
def uptoSmall : (H : Type) → List (DataW H) → Bool := fun _ ds => decide (uptoBulkAll ds ≤ 1048576)
def OpenSpec.upto (s : _root_.Go.ChangeSpec) : _root_.Go.OpenSpec := { _root_.Go.OpenSpec.ofChange s with cond := some uptoSmall }

/-- 'laws.FnExactOrderedLengths', WHERE WHAT IT READS IS OF BULK AT MOST 1048576: true; the input reads as it did. -/
def fnExactOrderedLengthsUptoRow : OpenClaim := { program := "ytklakacicmghiaa", sum := "4c70dbca6e9258637db6fc014ad928f80ff01912733f3bbb714ab6fae35be23c", func := "loop.example/g01164/laws.FnExactOrderedLengths", spec := "fnExactOrderedLengths", unfollowed := true, recurses := true, plainKeys := false, apart := false, narrowed := true }
def FnExactOrderedLengthsUptoSaid : Prop := fnExactOrderedLengthsUptoRow.holds Try.pinned (OpenSpec.upto fnExactOrderedLengthsSpec)

/-- 'laws.FnExactMergeRun', WHERE WHAT IT READS IS OF BULK AT MOST 1048576: true; the input reads as it did. -/
def fnExactMergeRunUptoRow : OpenClaim := { program := "ytklakacicmghiaa", sum := "4c70dbca6e9258637db6fc014ad928f80ff01912733f3bbb714ab6fae35be23c", func := "loop.example/g01164/laws.FnExactMergeRun", spec := "fnExactMergeRun", unfollowed := true, recurses := true, plainKeys := false, apart := false, narrowed := true }
def FnExactMergeRunUptoSaid : Prop := fnExactMergeRunUptoRow.holds Try.pinned (OpenSpec.upto fnExactMergeRunSpec)

/-- 'laws.FnExactBestCost', WHERE WHAT IT READS IS OF BULK AT MOST 1048576: true; the input reads as it did. -/
def fnExactBestCostUptoRow : OpenClaim := { program := "ytklakacicmghiaa", sum := "4c70dbca6e9258637db6fc014ad928f80ff01912733f3bbb714ab6fae35be23c", func := "loop.example/g01164/laws.FnExactBestCost", spec := "fnExactBestCost", unfollowed := true, recurses := true, plainKeys := false, apart := false, narrowed := true }
def FnExactBestCostUptoSaid : Prop := fnExactBestCostUptoRow.holds Try.pinned (OpenSpec.upto fnExactBestCostSpec)

/-- 'laws.FnExactBestWithin', WHERE WHAT IT READS IS OF BULK AT MOST 1048576: true; the input reads as it did. -/
def fnExactBestWithinUptoRow : OpenClaim := { program := "ytklakacicmghiaa", sum := "4c70dbca6e9258637db6fc014ad928f80ff01912733f3bbb714ab6fae35be23c", func := "loop.example/g01164/laws.FnExactBestWithin", spec := "fnExactBestWithin", unfollowed := true, recurses := true, plainKeys := false, apart := false, narrowed := true }
def FnExactBestWithinUptoSaid : Prop := fnExactBestWithinUptoRow.holds Try.pinned (OpenSpec.upto fnExactBestWithinSpec)

/-- 'laws.FnExactAreBest', WHERE WHAT IT READS IS OF BULK AT MOST 1048576: true; the input reads as it did. -/
def fnExactAreBestUptoRow : OpenClaim := { program := "ytklakacicmghiaa", sum := "4c70dbca6e9258637db6fc014ad928f80ff01912733f3bbb714ab6fae35be23c", func := "loop.example/g01164/laws.FnExactAreBest", spec := "fnExactAreBest", unfollowed := true, recurses := true, plainKeys := false, apart := false, narrowed := true }
def FnExactAreBestUptoSaid : Prop := fnExactAreBestUptoRow.holds Try.pinned (OpenSpec.upto fnExactAreBestSpec)

/-- 'laws.FnExactCountBest', WHERE WHAT IT READS IS OF BULK AT MOST 1048576: true; the input reads as it did. -/
def fnExactCountBestUptoRow : OpenClaim := { program := "ytklakacicmghiaa", sum := "4c70dbca6e9258637db6fc014ad928f80ff01912733f3bbb714ab6fae35be23c", func := "loop.example/g01164/laws.FnExactCountBest", spec := "fnExactCountBest", unfollowed := true, recurses := true, plainKeys := false, apart := false, narrowed := true }
def FnExactCountBestUptoSaid : Prop := fnExactCountBestUptoRow.holds Try.pinned (OpenSpec.upto fnExactCountBestSpec)

/-- 'laws.FnExactFirstBest', WHERE WHAT IT READS IS OF BULK AT MOST 1048576: true; the input reads as it did. -/
def fnExactFirstBestUptoRow : OpenClaim := { program := "ytklakacicmghiaa", sum := "4c70dbca6e9258637db6fc014ad928f80ff01912733f3bbb714ab6fae35be23c", func := "loop.example/g01164/laws.FnExactFirstBest", spec := "fnExactFirstBest", unfollowed := true, recurses := true, plainKeys := false, apart := false, narrowed := true }
def FnExactFirstBestUptoSaid : Prop := fnExactFirstBestUptoRow.holds Try.pinned (OpenSpec.upto fnExactFirstBestSpec)

/-- 'laws.FnExactWordsFor', WHERE WHAT IT READS IS OF BULK AT MOST 1048576: true; the input reads as it did. -/
def fnExactWordsForUptoRow : OpenClaim := { program := "ytklakacicmghiaa", sum := "4c70dbca6e9258637db6fc014ad928f80ff01912733f3bbb714ab6fae35be23c", func := "loop.example/g01164/laws.FnExactWordsFor", spec := "fnExactWordsFor", unfollowed := true, recurses := true, plainKeys := false, apart := false, narrowed := true }
def FnExactWordsForUptoSaid : Prop := fnExactWordsForUptoRow.holds Try.pinned (OpenSpec.upto fnExactWordsForSpec)

/-- 'laws.FnOrderedCodes', WHERE WHAT IT READS IS OF BULK AT MOST 1048576: true; the input reads as it did. -/
def fnOrderedCodesUptoRow : OpenClaim := { program := "ytklakacicmghiaa", sum := "4c70dbca6e9258637db6fc014ad928f80ff01912733f3bbb714ab6fae35be23c", func := "loop.example/g01164/laws.FnOrderedCodes", spec := "fnOrderedCodes", unfollowed := true, recurses := true, plainKeys := false, apart := false, narrowed := true }
def FnOrderedCodesUptoSaid : Prop := fnOrderedCodesUptoRow.holds Try.pinned (OpenSpec.upto fnOrderedCodesSpec)

end Rows
end Go.Proofs.Ytklakacicmghiaa
