/- Proved by hand, over the kit's shelf: a word backwards. -/
import Derived.Shelf.SlicesE.Reverse
import Derived.Test.YtpldfbkknkhlaaaDoorShelfR
import Derived.Lib.ConvBytes
import Derived.Laws.IdiomStrings
import Derived.Test.YtpldfbkknkhlaaaDoorWMore
import Derived.WalkKit
import Derived.KernelRfl
namespace Go.Proofs.YtpldfbkknkhlaaaDoor.Hand
open Go.RowKit Go.Shelf Go.Sort Go.Proofs.YtpldfbkknkhlaaaDoorW.PrintWords Go.Proofs.YtpldfbkknkhlaaaDoorW.PrintLast Go.Proofs.YtpldfbkknkhlaaaDoorW.PrintMore
set_option linter.unusedVariables false
set_option linter.unusedSimpArgs false
def enc8 (b : UInt8) : Value := .int .u8 (b.toNat : Int)
theorem enc8_one : OneCell enc8 := fun _ => rfl
theorem holds_bytes (w : World) (e : TypeId) (s : ByteArray) : Holds enc8 (Lib.bytesWorld w e s) w.heap.size 0 s.data.toList.toArray := by
  intro j hj
  have hj' : j < s.data.toList.length := by simpa using hj
  have hs : j < s.size := by rw [← Array.length_toList (xs := s.data)] at *; exact hj'
  rw [Nat.zero_add]
  refine ⟨?_, ?_⟩
  · rw [Lib.bytesWorld_cell w e s j hs, getElem!_pos _ j hj]
    simp [enc8, List.getD_eq_getElem?_getD, hj', hs]
  · unfold World.frozen?
    simp only
    rw [Lib.bytesWorld_at_new]
    have : ¬ (Lib.bytesCells w e s).size ≤ j := by
      simp [Lib.bytesCells]; omega
    simp [this]
theorem below_row {B : Nat} {w W : World} (h : Below B w W) (n b off : Nat) (hb : B ≤ b) (d : Array UInt8) : Below B w (putRow enc8 (Sort.ahead W n) b off d) := by
  refine ⟨h.os, h.tape, h.output, ?_, fun k hk => ?_⟩
  · rw [size_putRow]; exact h.size
  · rw [← h.block k hk]
    show (W.heap.modify b _)[k]? = _
    rw [Array.getElem?_modify, if_neg (by omega)]
def impl_back.f (a0 : ByteArray) : Option ByteArray := if 1 ≤ a0.size ∧ a0.size ≤ 1000 then some ⟨a0.data.toList.reverse.toArray⟩ else none
set_option maxHeartbeats 4000000 in
set_option maxRecDepth 100000 in
theorem impl_back.calls (a0 : ByteArray) (r : ByteArray) (w : World) (h : impl_back.f a0 = some r) :
    Calls Tryd.prog 18 #[.string a0] w fun e w' => e = .returned (.string r) ∧ Below w.heap.size w w' := by
  unfold impl_back.f at h
  split at h
  case isFalse => cases h
  rename_i hsz
  obtain rfl := Option.some.inj h
  have hcv := Lib.run_convert_string_bytes (P := Tryd.prog) w 9 38 5 a0 Tryd.underlying9 Tryd.underlying38 Tryd.underlying5
  have hrev := AnyE.slices_Reverse (P := Tryd.prog) (ρ := Tryd.revB_ren) { Tryd.revB with } enc8 enc8_one w.heap.size 0 (grownCap w a0.size 0 5) a0.data.toList (Lib.bytesWorld w 5 a0) (holds_bytes w 5 a0) (by rw [Array.length_toList]; exact Nat.le_trans hsz.2 (by decide))
  change Calls Tryd.prog 31 _ _ _ at hrev
  rw [Array.length_toList] at hrev
  have hl : a0.data.size = a0.size := rfl
  rw [hl] at hrev
  have HREV := Aside0.mk hrev
  have hback : ∀ n, (convert 38 9 (.slice (some ⟨w.heap.size, 0, none⟩) a0.size (grownCap w a0.size 0 5))).run Tryd.prog (putRow enc8 (Sort.ahead (Lib.bytesWorld w 5 a0) n) w.heap.size 0 a0.data.toList.reverse.toArray) = .ok (.string ⟨a0.data.toList.reverse.toArray⟩) (putRow enc8 (Sort.ahead (Lib.bytesWorld w 5 a0) n) w.heap.size 0 a0.data.toList.reverse.toArray) := by
    intro n
    have := run_convert_bytes_back (P := Tryd.prog) (putRow enc8 (Sort.ahead (Lib.bytesWorld w 5 a0) n) w.heap.size 0 a0.data.toList.reverse.toArray) 38 9 5 ⟨w.heap.size, 0, none⟩ (grownCap w a0.size 0 5) a0.data.toList.reverse Tryd.underlying38 Tryd.underlying5 Tryd.underlying9 (fun j hj => by
      have h0 : Holds enc8 (Sort.ahead (Lib.bytesWorld w 5 a0) n) w.heap.size 0 a0.data.toList.toArray := fun i hi => holds_bytes w 5 a0 i hi
      have := cell?_putRow enc8 (Sort.ahead (Lib.bytesWorld w 5 a0) n) w.heap.size 0 a0.data.toList.toArray a0.data.toList.reverse.toArray h0 (by simp) j (by simpa using hj)
      rw [Nat.zero_add, getElem!_pos _ j (by simpa using hj)] at this
      rw [add_plain, this]
      simp [enc8])
    rw [List.length_reverse, Array.length_toList] at this
    exact this
  have HBACK := Aside0.mk hback
  have HBB := Aside0.mk (bytes_below (Below.refl w.heap.size w) (Nat.le_refl _) 5 a0)
  clear hrev hback h
  go_enter Tryd.func18, Tryd.ntmps18
  go_wp2_with (go_at_call 31; refine HREV.out.mono ?_; rintro e w' ⟨rfl, ⟨n, rfl⟩⟩; have hb := HBACK.out n)
  go_ret
  exact ⟨rfl, below_row HBB.out n _ 0 (Nat.le_refl _) _⟩
end Go.Proofs.YtpldfbkknkhlaaaDoor.Hand
