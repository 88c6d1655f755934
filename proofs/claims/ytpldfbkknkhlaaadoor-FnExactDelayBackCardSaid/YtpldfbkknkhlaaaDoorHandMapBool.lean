/- Proved by hand: a map[string]bool that the call made, as a list of the words that are in it. -/
import Derived.Maps.Own
import Derived.Maps.OwnSet
import Derived.Maps.Keyed
import Derived.Maps.Views
import Derived.Test.YtpldfbkknkhlaaaDoorProg
import Derived.Test.YtpldfbkknkhlaaaDoorWMore
import Derived.WalkKit
import Derived.KernelRfl
namespace Go.Proofs.YtpldfbkknkhlaaaDoor.Hand
open Go.RowKit Go.Maps Go.Proofs.YtpldfbkknkhlaaaDoorW.PrintWords Go.Proofs.YtpldfbkknkhlaaaDoorW.PrintLast Go.Proofs.YtpldfbkknkhlaaaDoorW.PrintMore
set_option linter.unusedVariables false
set_option linter.unusedSimpArgs false
/-- whether a word is there -/
def inS (l : List ByteArray) (s : ByteArray) : Bool := l.any fun y => s.data.toList == y.data.toList
/-- block b is the map of these words -/
def Met (w : World) (b n : Nat) (l : List ByteArray) : Prop := ∃ D : DataW Unit, w.ownsMap Tryd.prog 9 (plainElem Tryd.prog 4) b n D ∧ ∀ s : ByteArray, D.atKey (.string s.data.toList) (.lit (.bool false)) = .lit (.bool (inS l s))
theorem met_key (s : ByteArray) (hs : s.size ≤ maxLen) : keyOf Tryd.prog 9 (.string s) = some (.string s.data.toList) := by
  have h : Tryd.prog.underlying 9 = some .string := Tryd.underlying9
  simp [keyOf, h, mapKey, hs]
theorem met_made (w : World) : Met (w.alloc (.map #[] 0)) w.heap.size 0 [] := ⟨.map [], World.ownsMap_made w _ _ _, fun s => by simp [DataW.atKey, inS]⟩
theorem met_look {w : World} {b n : Nat} {l : List ByteArray} (h : Met w b n l) (s : ByteArray) (hs : s.size ≤ maxLen) : (Instr.lookup 35 (.map (some b)) (.string s) false).run Tryd.prog w = .ok (.bool (inS l s)) w := by
  obtain ⟨D, ho, hD⟩ := h
  have hB : Tryd.prog.underlying 4 = some .bool := Tryd.underlying4
  obtain ⟨v, ps, hrun, hv⟩ := ho.lookup (string_keyed Tryd.underlying9) Tryd.underlying35 (z := .bool false) (by kernel_rfl) (plainElem_bool hB false) (met_key s hs)
  rw [hD s] at hv
  have e : v = .bool (inS l s) := by
    unfold plainElem at hv
    rw [hB] at hv
    cases v <;> simp at hv
    rw [hv.1]
  rw [hrun, e]
theorem met_put {w : World} {b n : Nat} {l : List ByteArray} (h : Met w b n l) (s : ByteArray) (hs : s.size ≤ maxLen) (hn : n < maxLen) : ∃ w', (Instr.mapUpdate 35 (.map (some b)) (.string s) (.bool true)).run Tryd.prog w = .ok () w' ∧ Met w' b (n + 1) (l ++ [s]) ∧ w.grownBy w' (some b) := by
  obtain ⟨D, ho, hD⟩ := h
  have hB : Tryd.prog.underlying 4 = some .bool := Tryd.underlying4
  obtain ⟨w', hrun, ho', hg⟩ := ho.update (string_keyed Tryd.underlying9) Tryd.underlying35 hn (met_key s hs) (plainElem_bool hB true)
  refine ⟨w', hrun, ⟨_, ho', fun t => ?_⟩, hg⟩
  by_cases e : t.data.toList = s.data.toList
  · rw [e, atKey_put_same ho.isMap (by simp [WideAt.IsKeyLit])]
    simp [inS, e]
  · rw [atKey_put_other (fun h => e (by injection h)), hD t]
    have e' : (t.data.toList == s.data.toList) = false := beq_eq_false_iff_ne.2 e
    unfold inS
    rw [List.any_append, List.any_cons, e']
    simp only [List.any_nil, Bool.or_false]
theorem Met.kept {w w' : World} {row : Option Nat} {b n : Nat} {l : List ByteArray} (h : Met w b n l) (hg : w.grownBy w' row) (hne : some b ≠ row) : Met w' b n l := by
  obtain ⟨D, ho, hD⟩ := h
  exact ⟨D, ho.kept hg hne, hD⟩
theorem Met.lt {w : World} {b n : Nat} {l : List ByteArray} (h : Met w b n l) : b < w.heap.size := by
  obtain ⟨D, ho, hD⟩ := h
  exact ho.lt
theorem Met.block {w : World} {b n : Nat} {l : List ByteArray} (h : Met w b n l) : ∃ es clock, w.heap[b]? = some (.map es clock) := by
  obtain ⟨D, ⟨es, clock, hb, -⟩, hD⟩ := h
  exact ⟨es, clock, hb⟩
end Go.Proofs.YtpldfbkknkhlaaaDoor.Hand
