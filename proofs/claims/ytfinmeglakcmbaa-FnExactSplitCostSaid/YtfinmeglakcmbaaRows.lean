/-
  No cell of these rows narrows 'for every input' (looked for: loops, veiled, ifaces, maps, wideKeys, modest, calm, conditions, laid).
  DERIVED. THE GIVEN ROWS OF THIS SEAT. 7 by the template 'for every input the law returns true; each argument reads behind the call as it read before'; 0 by the template 'total and deterministic' (their statements: YtfinmeglakcmbaaTotals.lean).
  GIVEN WITH THE SEED: the statements are not yours to turn. If you find one false, say at which input.
  Laid BY PROGRAM, IN A SANDBOX (cutbox-rows.mjs): the forced cells as the released guide's own fill.sh prints them over the translation 198d8a1bef039165… (all of the seat's roots in one cut). By AI agents, Wed Nov 11 2026. No macro, syntax, notation, axiom, sorry.
-/
import Derived.Test.YtfinmeglakcmbaaChecked
import GoSem.Claim
import GoSem.ClaimJoined
import GoSem.ClaimMapViews
import Derived.JoinedTies
import Derived.KernelRfl
namespace Go.Proofs.Ytfinmeglakcmbaa
/- THE CELL 'sum', in the pinned program and in every row, IS THE sha256 OF THE DUMP (.gsa) THAT YtfinmeglakcmbaaProg.lean LOADS. Nothing in Lean hashes anything: it is a label: what it is worth is what the hold of that sum in a sandbox is worth. -/
noncomputable def Try.pinned : Pinned := { name := "ytfinmeglakcmbaa", sum := "198d8a1bef039165a277d1b3b554f1ad64dddb07a7f4ca0632f053bece83cf52", checked := Try.checked }
namespace Rows
def none {H : Type} : Left H := { results := [], args := [] }

/-- 'laws.FnExactEvenCost': WHATEVER THE INPUT: true; the input reads as it did. -/
def fnExactEvenCostSpec : ChangeSpec := { name := "fnExactEvenCost", fn := fun _ => fun
  | [d1, d2] => { results := [.lit (.bool true)], args := [d1, d2] }
  | _ => none }
def fnExactEvenCostRow : OpenClaim := { program := "ytfinmeglakcmbaa", sum := "198d8a1bef039165a277d1b3b554f1ad64dddb07a7f4ca0632f053bece83cf52", func := "loop.example/g01164/laws.FnExactEvenCost", spec := "fnExactEvenCost", apart := false }
def FnExactEvenCostSaid : Prop := fnExactEvenCostRow.holds Try.pinned (OpenSpec.ofChange fnExactEvenCostSpec)

/-- ITS FALSE NEIGHBOUR: 'it returns false'. Refute it at one input. -/
def fnExactEvenCostWrong : ChangeSpec := { name := "fnExactEvenCost", fn := fun _ => fun
  | [d1, d2] => { results := [.lit (.bool false)], args := [d1, d2] }
  | _ => none }
def FnExactEvenCostWrongFalsely : Prop := fnExactEvenCostRow.holds Try.pinned (OpenSpec.ofChange fnExactEvenCostWrong)

/-- 'laws.FnExactFirstDesk': WHATEVER THE INPUT: true; the input reads as it did. -/
def fnExactFirstDeskSpec : ChangeSpec := { name := "fnExactFirstDesk", fn := fun _ => fun
  | [] => { results := [.lit (.bool true)], args := [] }
  | _ => none }
def fnExactFirstDeskRow : OpenClaim := { program := "ytfinmeglakcmbaa", sum := "198d8a1bef039165a277d1b3b554f1ad64dddb07a7f4ca0632f053bece83cf52", func := "loop.example/g01164/laws.FnExactFirstDesk", spec := "fnExactFirstDesk", apart := false }
def FnExactFirstDeskSaid : Prop := fnExactFirstDeskRow.holds Try.pinned (OpenSpec.ofChange fnExactFirstDeskSpec)

/-- ITS FALSE NEIGHBOUR: 'it returns false'. Refute it at one input. -/
def fnExactFirstDeskWrong : ChangeSpec := { name := "fnExactFirstDesk", fn := fun _ => fun
  | [] => { results := [.lit (.bool false)], args := [] }
  | _ => none }
def FnExactFirstDeskWrongFalsely : Prop := fnExactFirstDeskRow.holds Try.pinned (OpenSpec.ofChange fnExactFirstDeskWrong)

/-- 'laws.FnExactCostOf': WHATEVER THE INPUT: true; the input reads as it did. -/
def fnExactCostOfSpec : ChangeSpec := { name := "fnExactCostOf", fn := fun _ => fun
  | [d1, d2] => { results := [.lit (.bool true)], args := [d1, d2] }
  | _ => none }
def fnExactCostOfRow : OpenClaim := { program := "ytfinmeglakcmbaa", sum := "198d8a1bef039165a277d1b3b554f1ad64dddb07a7f4ca0632f053bece83cf52", func := "loop.example/g01164/laws.FnExactCostOf", spec := "fnExactCostOf", unfollowed := true, recurses := true, apart := false }
def FnExactCostOfSaid : Prop := fnExactCostOfRow.holds Try.pinned (OpenSpec.ofChange fnExactCostOfSpec)

/-- ITS FALSE NEIGHBOUR: 'it returns false'. Refute it at one input. -/
def fnExactCostOfWrong : ChangeSpec := { name := "fnExactCostOf", fn := fun _ => fun
  | [d1, d2] => { results := [.lit (.bool false)], args := [d1, d2] }
  | _ => none }
def FnExactCostOfWrongFalsely : Prop := fnExactCostOfRow.holds Try.pinned (OpenSpec.ofChange fnExactCostOfWrong)

/-- 'laws.FnExactCountWithCounts': WHATEVER THE INPUT: true; the input reads as it did. -/
def fnExactCountWithCountsSpec : ChangeSpec := { name := "fnExactCountWithCounts", fn := fun _ => fun
  | [d] => { results := [.lit (.bool true)], args := [d] }
  | _ => none }
def fnExactCountWithCountsRow : OpenClaim := { program := "ytfinmeglakcmbaa", sum := "198d8a1bef039165a277d1b3b554f1ad64dddb07a7f4ca0632f053bece83cf52", func := "loop.example/g01164/laws.FnExactCountWithCounts", spec := "fnExactCountWithCounts", apart := false }
def FnExactCountWithCountsSaid : Prop := fnExactCountWithCountsRow.holds Try.pinned (OpenSpec.ofChange fnExactCountWithCountsSpec)

/-- ITS FALSE NEIGHBOUR: 'it returns false'. Refute it at one input. -/
def fnExactCountWithCountsWrong : ChangeSpec := { name := "fnExactCountWithCounts", fn := fun _ => fun
  | [d] => { results := [.lit (.bool false)], args := [d] }
  | _ => none }
def FnExactCountWithCountsWrongFalsely : Prop := fnExactCountWithCountsRow.holds Try.pinned (OpenSpec.ofChange fnExactCountWithCountsWrong)

/-- 'laws.FnExactSplitCost': WHATEVER THE INPUT: true; the input reads as it did. -/
def fnExactSplitCostSpec : ChangeSpec := { name := "fnExactSplitCost", fn := fun _ => fun
  | [d1, d2] => { results := [.lit (.bool true)], args := [d1, d2] }
  | _ => none }
def fnExactSplitCostRow : OpenClaim := { program := "ytfinmeglakcmbaa", sum := "198d8a1bef039165a277d1b3b554f1ad64dddb07a7f4ca0632f053bece83cf52", func := "loop.example/g01164/laws.FnExactSplitCost", spec := "fnExactSplitCost", unfollowed := true, recurses := true, apart := false }
def FnExactSplitCostSaid : Prop := fnExactSplitCostRow.holds Try.pinned (OpenSpec.ofChange fnExactSplitCostSpec)

/-- ITS FALSE NEIGHBOUR: 'it returns false'. Refute it at one input. -/
def fnExactSplitCostWrong : ChangeSpec := { name := "fnExactSplitCost", fn := fun _ => fun
  | [d1, d2] => { results := [.lit (.bool false)], args := [d1, d2] }
  | _ => none }
def FnExactSplitCostWrongFalsely : Prop := fnExactSplitCostRow.holds Try.pinned (OpenSpec.ofChange fnExactSplitCostWrong)

/-- 'laws.FnExactOrderedCost': WHATEVER THE INPUT: true; the input reads as it did. -/
def fnExactOrderedCostSpec : ChangeSpec := { name := "fnExactOrderedCost", fn := fun _ => fun
  | [d] => { results := [.lit (.bool true)], args := [d] }
  | _ => none }
def fnExactOrderedCostRow : OpenClaim := { program := "ytfinmeglakcmbaa", sum := "198d8a1bef039165a277d1b3b554f1ad64dddb07a7f4ca0632f053bece83cf52", func := "loop.example/g01164/laws.FnExactOrderedCost", spec := "fnExactOrderedCost", unfollowed := true, recurses := true, apart := false }
def FnExactOrderedCostSaid : Prop := fnExactOrderedCostRow.holds Try.pinned (OpenSpec.ofChange fnExactOrderedCostSpec)

/-- ITS FALSE NEIGHBOUR: 'it returns false'. Refute it at one input. -/
def fnExactOrderedCostWrong : ChangeSpec := { name := "fnExactOrderedCost", fn := fun _ => fun
  | [d] => { results := [.lit (.bool false)], args := [d] }
  | _ => none }
def FnExactOrderedCostWrongFalsely : Prop := fnExactOrderedCostRow.holds Try.pinned (OpenSpec.ofChange fnExactOrderedCostWrong)

/-- 'laws.FnExactCanBeOrdered': WHATEVER THE INPUT: true; the input reads as it did. -/
def fnExactCanBeOrderedSpec : ChangeSpec := { name := "fnExactCanBeOrdered", fn := fun _ => fun
  | [d] => { results := [.lit (.bool true)], args := [d] }
  | _ => none }
def fnExactCanBeOrderedRow : OpenClaim := { program := "ytfinmeglakcmbaa", sum := "198d8a1bef039165a277d1b3b554f1ad64dddb07a7f4ca0632f053bece83cf52", func := "loop.example/g01164/laws.FnExactCanBeOrdered", spec := "fnExactCanBeOrdered", unfollowed := true, recurses := true, apart := false }
def FnExactCanBeOrderedSaid : Prop := fnExactCanBeOrderedRow.holds Try.pinned (OpenSpec.ofChange fnExactCanBeOrderedSpec)

/-- ITS FALSE NEIGHBOUR: 'it returns false'. Refute it at one input. -/
def fnExactCanBeOrderedWrong : ChangeSpec := { name := "fnExactCanBeOrdered", fn := fun _ => fun
  | [d] => { results := [.lit (.bool false)], args := [d] }
  | _ => none }
def FnExactCanBeOrderedWrongFalsely : Prop := fnExactCanBeOrderedRow.holds Try.pinned (OpenSpec.ofChange fnExactCanBeOrderedWrong)

/- THE SECOND FORM. 'bulk': how many values and letters a reading holds, each counted each time it is reached (what is shared counts as often as it is met; a slice's spare places count too). A statement '..UptoSaid' is the law's where the arguments, and the package variables that the reading takes, are together of bulk at most 1048576: NARROWER than '..Said'. Prove '..Said' where nothing that the law and all that it calls make is longer than what came in: it says more and counts as full. Else prove '..UptoSaid'. A law counts once. -/
mutual
def uptoBulk {H : Type} : DataW H → Nat
  | .lit (.string bytes) => bytes.length + 1
  | .lit _ => 1
  | .nil => 1
  | .ptr d => uptoBulk d + 1
  | .slice elems spare => uptoBulkAll elems + uptoBulkAll spare + 1
  | .agg parts => uptoBulkAll parts + 1
  | .iface _ d => uptoBulk d + 1
  | .map entries => uptoBulkEntries entries + 1
  | .held _ => 1
def uptoBulkAll {H : Type} : List (DataW H) → Nat
  | [] => 0
  | d :: r => uptoBulk d + uptoBulkAll r
def uptoBulkEntries {H : Type} : List (Lit × DataW H) → Nat
  | [] => 0
  | x :: r => uptoBulkEntry x + uptoBulkEntries r
def uptoBulkEntry {H : Type} : Lit × DataW H → Nat
  | (.string bytes, d) => bytes.length + uptoBulk d + 1
  | (_, d) => uptoBulk d + 1
 end
def uptoSmall : (H : Type) → List (DataW H) → Bool := fun _ ds => decide (uptoBulkAll ds ≤ 1048576)
def OpenSpec.upto (s : _root_.Go.ChangeSpec) : _root_.Go.OpenSpec := { _root_.Go.OpenSpec.ofChange s with cond := some uptoSmall }

/-- 'laws.FnExactEvenCost', WHERE WHAT IT READS IS OF BULK AT MOST 1048576: true; the input reads as it did. -/
def fnExactEvenCostUptoRow : OpenClaim := { program := "ytfinmeglakcmbaa", sum := "198d8a1bef039165a277d1b3b554f1ad64dddb07a7f4ca0632f053bece83cf52", func := "loop.example/g01164/laws.FnExactEvenCost", spec := "fnExactEvenCost", apart := false, narrowed := true }
def FnExactEvenCostUptoSaid : Prop := fnExactEvenCostUptoRow.holds Try.pinned (OpenSpec.upto fnExactEvenCostSpec)

/-- 'laws.FnExactFirstDesk', WHERE WHAT IT READS IS OF BULK AT MOST 1048576: true; the input reads as it did. -/
def fnExactFirstDeskUptoRow : OpenClaim := { program := "ytfinmeglakcmbaa", sum := "198d8a1bef039165a277d1b3b554f1ad64dddb07a7f4ca0632f053bece83cf52", func := "loop.example/g01164/laws.FnExactFirstDesk", spec := "fnExactFirstDesk", apart := false, narrowed := true }
def FnExactFirstDeskUptoSaid : Prop := fnExactFirstDeskUptoRow.holds Try.pinned (OpenSpec.upto fnExactFirstDeskSpec)

/-- 'laws.FnExactCostOf', WHERE WHAT IT READS IS OF BULK AT MOST 1048576: true; the input reads as it did. -/
def fnExactCostOfUptoRow : OpenClaim := { program := "ytfinmeglakcmbaa", sum := "198d8a1bef039165a277d1b3b554f1ad64dddb07a7f4ca0632f053bece83cf52", func := "loop.example/g01164/laws.FnExactCostOf", spec := "fnExactCostOf", unfollowed := true, recurses := true, apart := false, narrowed := true }
def FnExactCostOfUptoSaid : Prop := fnExactCostOfUptoRow.holds Try.pinned (OpenSpec.upto fnExactCostOfSpec)

/-- 'laws.FnExactCountWithCounts', WHERE WHAT IT READS IS OF BULK AT MOST 1048576: true; the input reads as it did. -/
def fnExactCountWithCountsUptoRow : OpenClaim := { program := "ytfinmeglakcmbaa", sum := "198d8a1bef039165a277d1b3b554f1ad64dddb07a7f4ca0632f053bece83cf52", func := "loop.example/g01164/laws.FnExactCountWithCounts", spec := "fnExactCountWithCounts", apart := false, narrowed := true }
def FnExactCountWithCountsUptoSaid : Prop := fnExactCountWithCountsUptoRow.holds Try.pinned (OpenSpec.upto fnExactCountWithCountsSpec)

/-- 'laws.FnExactSplitCost', WHERE WHAT IT READS IS OF BULK AT MOST 1048576: true; the input reads as it did. -/
def fnExactSplitCostUptoRow : OpenClaim := { program := "ytfinmeglakcmbaa", sum := "198d8a1bef039165a277d1b3b554f1ad64dddb07a7f4ca0632f053bece83cf52", func := "loop.example/g01164/laws.FnExactSplitCost", spec := "fnExactSplitCost", unfollowed := true, recurses := true, apart := false, narrowed := true }
def FnExactSplitCostUptoSaid : Prop := fnExactSplitCostUptoRow.holds Try.pinned (OpenSpec.upto fnExactSplitCostSpec)

/-- 'laws.FnExactOrderedCost', WHERE WHAT IT READS IS OF BULK AT MOST 1048576: true; the input reads as it did. -/
def fnExactOrderedCostUptoRow : OpenClaim := { program := "ytfinmeglakcmbaa", sum := "198d8a1bef039165a277d1b3b554f1ad64dddb07a7f4ca0632f053bece83cf52", func := "loop.example/g01164/laws.FnExactOrderedCost", spec := "fnExactOrderedCost", unfollowed := true, recurses := true, apart := false, narrowed := true }
def FnExactOrderedCostUptoSaid : Prop := fnExactOrderedCostUptoRow.holds Try.pinned (OpenSpec.upto fnExactOrderedCostSpec)

/-- 'laws.FnExactCanBeOrdered', WHERE WHAT IT READS IS OF BULK AT MOST 1048576: true; the input reads as it did. -/
def fnExactCanBeOrderedUptoRow : OpenClaim := { program := "ytfinmeglakcmbaa", sum := "198d8a1bef039165a277d1b3b554f1ad64dddb07a7f4ca0632f053bece83cf52", func := "loop.example/g01164/laws.FnExactCanBeOrdered", spec := "fnExactCanBeOrdered", unfollowed := true, recurses := true, apart := false, narrowed := true }
def FnExactCanBeOrderedUptoSaid : Prop := fnExactCanBeOrderedUptoRow.holds Try.pinned (OpenSpec.upto fnExactCanBeOrderedSpec)

end Rows
end Go.Proofs.Ytfinmeglakcmbaa
