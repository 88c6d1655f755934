-- by wip/shake.py
import Derived.Maps.Own
import Derived.Maps.OwnSet
import Derived.Maps.Keyed
import Derived.DeepKeys4
import Derived.Test.YtmanjfdchhipmaaGreatDoorProg
import Derived.Test.YtmanjfdchhipmaaGreatDoorVAll
import Derived.WalkKit
import Derived.KernelRfl
namespace Go.Proofs.YtmanjfdchhipmaaGreatDoor.Hand
open Go.RowKit Go.Maps Go.WideElems Go.Proofs.YtmanjfdchhipmaaGreatDoorW.PrintWords Go.Proofs.YtmanjfdchhipmaaGreatDoorW.PrintLast Go.Proofs.YtmanjfdchhipmaaGreatDoorW.PrintMore
set_option linter.unusedVariables false
set_option linter.unusedSimpArgs false
section
variable {P : Program} {K T E : TypeId} {I : Value → Int → Prop}
def Memo (P : Program) (K E : TypeId) (w : World) (b n : Nat) (I : Value → Int → Prop) : Prop :=
 ∃ es clock, w.heap[b]? = some (.map es clock) ∧ Fit (H := Unit) P K (plainElem P E) es clock ∧ es.size ≤ n ∧ ∀ x ∈ es.toList, ∃ v : Int, x.val = .int .i64 v ∧ I x.key v
theorem memo_made (w : World) : Memo P K E (w.alloc (.map #[] 0)) w.heap.size 0 I := by
 obtain ⟨es, clock, hb, F, hn, -⟩ := World.ownsMap_made (H := Unit) w P K (plainElem P E)
 refine ⟨es, clock, hb, F, hn, fun x hx => ?_⟩
 have h0 : es.toList.length = 0 := by rw [Array.length_toList]; omega
 rw [List.eq_nil_of_length_eq_zero h0] at hx
 cases hx
theorem Memo.lt {w : World} {b n : Nat} (h : Memo P K E w b n I) : b < w.heap.size := by
 obtain ⟨es, clock, hb, -⟩ := h
 exact blk_lt hb
theorem Memo.move {w w' : World} {b n : Nat} (h : Memo P K E w b n I) (hm : w'.heap[b]? = w.heap[b]?) : Memo P K E w' b n I := by
 obtain ⟨es, clock, hb, r⟩ := h
 exact ⟨es, clock, hm.trans hb, r⟩
theorem Memo.mono {w : World} {b n m : Nat} (h : Memo P K E w b n I) (hm : n ≤ m) : Memo P K E w b m I := by
 obtain ⟨es, clock, hb, F, hn, r⟩ := h
 exact ⟨es, clock, hb, F, Nat.le_trans hn hm, r⟩
theorem memo_look (KD : Keyed P K) (ht : P.underlying T = some (.map K E)) (he : P.underlying E = some (.int .i64)) {w : World} (hz : (zeroValue E).run P w = .ok (.int .i64 0) w) {b n : Nat} (h : Memo P K E w b n I) {key : Value} {kl : Lit} (hkey : keyOf P K key = some kl) :
  (Instr.lookup T (.map (some b)) key true).run P w = .ok (.tuple #[.int .i64 0, .bool false]) w ∨ ∃ v, I key v ∧ (Instr.lookup T (.map (some b)) key true).run P w = .ok (.tuple #[.int .i64 v, .bool true]) w := by
 obtain ⟨es, clock, hb, F, hn, hI⟩ := h
 rcases Maps.fit_look true KD ht hz hb F hkey with ⟨hrun, -, -⟩ | ⟨e0, y, hm, hk, hrun, -, -, -⟩
 ·exact .inl hrun
 ·obtain ⟨v, hv, hi⟩ := hI e0 hm
  rw [hk] at hi
  rw [hv] at hrun
  exact .inr ⟨v, hi, hrun⟩
theorem memo_put (KD : Keyed P K) (ht : P.underlying T = some (.map K E)) (he : P.underlying E = some (.int .i64)) {w : World} {b n : Nat} (h : Memo P K E w b n I) (hn : n < maxLen) {key : Value} {kl : Lit} (hkey : keyOf P K key = some kl) {v : Int} (hv : (Lit.int .i64 v).wf = true) (hi : I key v) :
  ∃ w', (Instr.mapUpdate T (.map (some b)) key (.int .i64 v)).run P w = .ok () w' ∧ Memo P K E w' b (n + 1) I ∧ w.grownBy w' (some b) := by
 obtain ⟨es, clock, hb, F, hs, hI⟩ := h
 obtain ⟨es', clock', hrun, F', hput, -, -, hes⟩ := Maps.fit_store (R' := plainElem P E) KD ht hb F (Nat.lt_of_le_of_lt hs hn) (fun _ _ _ _ hz => hz) hkey (plainElem_int (H := Unit) he hv)
 refine ⟨_, hrun, ⟨es', clock', ChangeMaps.heap_setBlock_same hb _, F', ?_, fun x hx => ?_⟩, ⟨rfl, rfl, rfl, by simp [ChangeMaps.setBlock], fun i _ hi => ChangeMaps.heap_setBlock_other hb _ (fun e => hi (by rw [e]))⟩⟩
 ·have e1 : es'.size = ((es'.toList.map (rg P K (plainElem (H := Unit) P E))).foldr DataW.insert []).length := by rw [length_sorted]; simp
  rw [e1, hput]
  unfold ChangeMaps.putKey
  rw [length_insert]
  have e2 := List.length_filter_le (ChangeMaps.notKey kl) ((es.toList.map (rg P K (plainElem (H := Unit) P E))).foldr DataW.insert [])
  rw [length_sorted] at e2
  simp at e2
  omega
 ·rcases hes x hx with ⟨h1, -⟩ | ⟨h1, h2⟩
  ·exact hI x h1
  ·exact ⟨v, h2, by rw [h1]; exact hi⟩
end
end Go.Proofs.YtmanjfdchhipmaaGreatDoor.Hand
