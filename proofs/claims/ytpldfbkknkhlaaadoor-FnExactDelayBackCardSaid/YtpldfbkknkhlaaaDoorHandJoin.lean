/- Proved by hand, over the kit's shelf: strings.Join of a list of texts. -/
import Derived.Test.YtpldfbkknkhlaaaDoorShelfJ
import Derived.Test.YtpldfbkknkhlaaaDoorWMore
import Derived.WalkKit
import Derived.KernelRfl
namespace Go.Proofs.YtpldfbkknkhlaaaDoor.Hand
open Go.RowKit Go.Shelf Go.Proofs.YtpldfbkknkhlaaaDoorW.PrintWords Go.Proofs.YtpldfbkknkhlaaaDoorW.PrintLast Go.Proofs.YtpldfbkknkhlaaaDoorW.PrintMore
set_option linter.unusedVariables false
set_option linter.unusedSimpArgs false
theorem extraJ : Builder.Extra Tryd.prog Tryd.lays156_ren where
  sizeBuilder := by kernel_rfl
  liesBuilder := by kernel_rfl
  t5 := Tryd.underlying5
  a5 := Tryd.isAgg5
  z5 := Tryd.sizeOf5
  v5 := Tryd.zeroValue5
  infoByte := by kernel_rfl
  cellsByte := by kernel_rfl
  sizeByte := by kernel_rfl
  neB5 := by decide
def joinB (l0 : List ByteArray) (a1 : ByteArray) : ByteArray := ⟨(Lib.join (l0.map (·.data.toList)) a1.data.toList).toArray⟩
def strings_Join.f (l0 : List ByteArray) (a1 : ByteArray) : Option ByteArray := if l0.length ≤ 140737488355328 ∧ (joinB l0 a1).size ≤ 140737488355328 then some (joinB l0 a1) else none
/-- a slice of strings that is not empty, cell by cell -/
theorem join_here {w : World} {A : Option Addr} {l : List ByteArray} (h : Kd.C Kd.string w A l.length l) (h0 : 0 < l.length) : ∃ b off, A = some ⟨b, off, none⟩ ∧ b < w.heap.size ∧ ∀ j, j < l.length → w.cell? ⟨b, off + j, none⟩ = some (.string (l.getD j ByteArray.empty)) := by
  obtain ⟨-, -, hc⟩ := Kd.reads_of_C (d := ByteArray.empty) h
  obtain ⟨⟨b, off, spot⟩, rfl, hcell⟩ := hc h0
  clear hc
  have hz := hcell 0 h0
  have hb : b < w.heap.size := by
    rcases Nat.lt_or_ge b w.heap.size with h' | h'
    · exact h'
    · simp [Addr.add, World.cell?, Array.getElem?_eq_none h'] at hz
  have hsp : spot = none := by
    cases spot with
    | none => rfl
    | some x =>
      simp only [Addr.add, World.cell?, if_true, Option.isSome_some] at hz
      split at hz <;> cases hz
  subst hsp
  refine ⟨b, off, rfl, hb, fun j hj => ?_⟩
  have hj' := hcell j hj
  by_cases e : j = 0
  · subst e; simpa [Addr.add] using hj'
  · simpa [Addr.add, e] using hj'
theorem strings_Join.calls (A0 : Option Addr) (c0 : Nat) (l0 : List ByteArray) (a1 : ByteArray) (r : ByteArray) (w : World) (hr0 : Kd.C Kd.string w A0 l0.length l0) (hc0 : l0.length ≤ c0) (h : strings_Join.f l0 a1 = some r) :
    Calls Tryd.prog 26 #[.slice A0 l0.length c0, .string a1] w fun e w' => e = .returned (.string r) ∧ Below w.heap.size w w' := by
  unfold strings_Join.f at h
  split at h
  · rename_i h1
    obtain ⟨hN, hL⟩ := h1
    obtain rfl := Option.some.inj h
    by_cases h0 : l0.length = 0
    · have hnil : l0 = [] := List.eq_nil_of_length_eq_zero h0
      subst hnil
      refine (Any.strings_Join_none Tryd.lays156 extraJ A0 c0 a1 w).mono ?_
      rintro e w' ⟨rfl, rfl⟩
      exact ⟨rfl, Below.refl _ _⟩
    · obtain ⟨b, off, rfl, hb, hcell⟩ := join_here hr0 (by omega)
      have hL2 : (Lib.join (l0.map (·.data.toList)) a1.data.toList).length ≤ 140737488355328 := by
        have h9 : (joinB l0 a1).size = (Lib.join (l0.map (·.data.toList)) a1.data.toList).length := by
          unfold joinB; simp [ByteArray.size]
        omega
      refine (Any.strings_Join Tryd.lays156 extraJ b off c0 l0 a1 w (fun j x hx => ?_) hb hN hc0 hL2).mono ?_
      · have hj : j < l0.length := (List.getElem?_eq_some_iff.1 hx).1
        rw [hcell j hj, List.getD_eq_getElem?_getD, hx]; rfl
      · rintro e w' ⟨rfl, h9⟩
        exact ⟨rfl, h9⟩
  · cases h
end Go.Proofs.YtpldfbkknkhlaaaDoor.Hand
