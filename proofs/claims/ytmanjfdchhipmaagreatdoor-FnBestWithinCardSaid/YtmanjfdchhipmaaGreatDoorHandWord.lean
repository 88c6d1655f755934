-- by wip/shake.py
import Derived.Test.YtmanjfdchhipmaaGreatDoorShelf
import Derived.Test.YtmanjfdchhipmaaGreatDoorVAll
import Derived.WalkKit
import Derived.KernelRfl
import Derived.WalkSpells
namespace Go.Proofs.YtmanjfdchhipmaaGreatDoor.Hand
open Go.RowKit Go.Shelf Go.Proofs.YtmanjfdchhipmaaGreatDoorW.PrintWords Go.Proofs.YtmanjfdchhipmaaGreatDoorW.PrintLast Go.Proofs.YtmanjfdchhipmaaGreatDoorW.PrintMore
set_option linter.unusedVariables false
set_option linter.unusedSimpArgs false
def isLetter (c : UInt8) : Bool := decide (97 ≤ c.toNat ∧ c.toNat ≤ 99)
def impl_isWord.f (a0 : ByteArray) : Option (Bool) := some (decide (a0.size ≤ 60) && a0.data.toList.all isLetter)
theorem u8_eq (c : UInt8) (n : Nat) (hn : n < 256) : (c = UInt8.ofNat n) ↔ c.toNat = n := by
 constructor
 ·intro h; rw [h]; simp; omega
 ·intro h; rw [← h]; simp
theorem mem_abc (c : UInt8) : ([97, 98, 99] : List UInt8).contains c = isLetter c := by
 have h1 := u8_eq c 97 (by omega)
 have h2 := u8_eq c 98 (by omega)
 have h3 := u8_eq c 99 (by omega)
 rw [Bool.eq_iff_iff]
 unfold isLetter
 rw [List.contains_iff_mem, decide_eq_true_eq, List.mem_cons, List.mem_cons, List.mem_singleton]
 constructor
 ·rintro (h | h | h)
  ·have := h1.1 h; omega
  ·have := h2.1 h; omega
  ·have := h3.1 h; omega
 ·intro h
  rcases (show c.toNat = 97 ∨ c.toNat = 98 ∨ c.toNat = 99 by omega) with e | e | e
  ·exact Or.inl (h1.2 e)
  ·exact Or.inr (Or.inl (h2.2 e))
  ·exact Or.inr (Or.inr (h3.2 e))
theorem dropWhile_nil {α : Type} (p : α → Bool) : ∀ l : List α, l.dropWhile p = [] ↔ l.all p = true
 | [] => by simp
 | x :: l => by
  rw [List.dropWhile_cons, List.all_cons]
  cases h : p x
  ·simp
  ·simp only [if_true, Bool.true_and]; exact dropWhile_nil p l
theorem dropWhile_head {α : Type} (p : α → Bool) : ∀ (l : List α) (x : α) (xs : List α), l.dropWhile p = x :: xs → p x = false
 | [], x, xs, h => by simp at h
 | y :: l, x, xs, h => by
  rw [List.dropWhile_cons] at h
  cases hy : p y
  ·rw [hy] at h; simp at h; rw [← h.1]; exact hy
  ·rw [hy] at h; simp at h; exact dropWhile_head p l x xs h
theorem dropWhile_mem {α : Type} (p : α → Bool) (l : List α) (x : α) (h : x ∈ l.dropWhile p) : x ∈ l := (List.dropWhile_sublist p).mem h
theorem trimS_nil (l : List UInt8) : (Lib.trimS l [97, 98, 99] = []) ↔ l.all isLetter = true := by
 have e : ∀ l : List UInt8, l.dropWhile (([97, 98, 99] : List UInt8).contains ·) = l.dropWhile isLetter := fun l => by congr 1; funext c; exact mem_abc c
 unfold Lib.trimS Lib.trimLeftS Lib.trimRightS
 rw [e, e, dropWhile_nil, List.all_eq_true, List.all_eq_true]
 constructor
 ·intro h c hc
  rcases hd : (l.reverse.dropWhile isLetter) with _ | ⟨x, xs⟩
  ·exact (List.all_eq_true.1 ((dropWhile_nil _ _).1 hd)) c (by simpa using hc)
  ·have h1 := dropWhile_head _ _ _ _ hd
   have h2 := h x (by rw [hd]; simp)
   rw [h1] at h2; cases h2
 ·intro h c hc
  have hm := dropWhile_mem isLetter _ c (List.mem_reverse.1 hc)
  exact h c (List.mem_reverse.1 hm)
set_option maxHeartbeats 8000000 in
set_option maxRecDepth 100000 in
theorem impl_isWord.calls (a0 : ByteArray) (r : Bool) (w : World) (h : impl_isWord.f a0 = some r) :
  Calls Tryz.prog 65 #[.string a0] w fun e w' => e = .returned (.bool r) ∧ Below w.heap.size w w' := by
 have hr : r = (decide (a0.size ≤ 60) && a0.data.toList.all isLetter) := (Option.some.inj h).symm
 clear h
 by_cases hl : a0.size ≤ 60
 ·have hcon := Any.strings_Trim_laid Tryz.lays160 (by kernel_rfl) a0 ⟨#[97, 98, 99]⟩ w (by omega) (by decide) (ascii_of_all (by decide))
  change Calls Tryz.prog 106 _ _ (fun e w' => e = .returned (.string ⟨(Lib.trimS a0.data.toList [97, 98, 99]).toArray⟩) ∧ Below w.heap.size w w') at hcon
  have hn := trimS_nil a0.data.toList
  have hd1 : decide ((a0.size : Int) ≤ 60) = true := decide_eq_true (by omega)
  have hd2 : decide (a0.size ≤ 60) = true := decide_eq_true hl
  cases ht : Lib.trimS a0.data.toList [97, 98, 99] with
  | nil =>
   rw [ht] at hcon
   have hr' : r = true := by rw [hr, hd2, hn.1 ht]; rfl
   subst hr'
   clear hr hn ht
   go_enter Tryz.func65, Tryz.ntmps65
   go_wp2_with (go_at_call 106; refine hcon.mono ?_; rintro e w' ⟨rfl, hB⟩)
   go_ret
   exact ⟨rfl, hB⟩
  | cons x xs =>
   rw [ht] at hcon
   have hr' : r = false := by
    rw [hr, hd2, Bool.true_and, Bool.eq_false_iff]
    intro h; have := hn.2 h; rw [ht] at this; cases this
   subst hr'
   clear hr hn ht
   go_enter Tryz.func65, Tryz.ntmps65
   go_wp2_with (go_at_call 106; refine hcon.mono ?_; rintro e w' ⟨rfl, hB⟩)
   go_ret
   exact ⟨rfl, hB⟩
 ·have hr' : r = false := by rw [hr, decide_eq_false hl]; rfl
  subst hr'
  have hd1 : decide ((a0.size : Int) ≤ 60) = false := decide_eq_false (by omega)
  have hd2 : decide (a0.size ≤ 60) = false := decide_eq_false hl
  clear hr
  go_enter Tryz.func65, Tryz.ntmps65
  go_wp2
  go_ret
  exact ⟨rfl, Below.refl _ _⟩
end Go.Proofs.YtmanjfdchhipmaaGreatDoor.Hand
