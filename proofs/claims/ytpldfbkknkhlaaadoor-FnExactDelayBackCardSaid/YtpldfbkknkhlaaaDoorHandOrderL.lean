/- The order of words, and a list put in order, each word once: in plain Lean. -/
import Derived.Shelf.SlSortCmp.Kit1
import Derived.Sort.Statements
import Derived.Lib.SlicesCompact
import Derived.Lib.Bytealg
import Derived.Test.YtpldfbkknkhlaaaDoorWMore
namespace Go.Proofs.YtpldfbkknkhlaaaDoor.Hand
set_option linter.unusedVariables false
set_option linter.unusedSimpArgs false
theorem cb_self : ∀ x : List UInt8, Lib.compareBytes x x = 0
  | [] => rfl
  | a :: x => by rw [Lib.compareBytes]; simp [cb_self x]
theorem cb_range : ∀ x y : List UInt8, Lib.compareBytes x y = -1 ∨ Lib.compareBytes x y = 0 ∨ Lib.compareBytes x y = 1
  | [], [] => by simp [Lib.compareBytes]
  | [], _ :: _ => by simp [Lib.compareBytes]
  | _ :: _, [] => by simp [Lib.compareBytes]
  | a :: x, b :: y => by
    rw [Lib.compareBytes]
    split
    · simp
    · split
      · simp
      · exact cb_range x y
theorem cb_zero : ∀ x y : List UInt8, Lib.compareBytes x y = 0 → x = y
  | [], [], _ => rfl
  | [], _ :: _, h => by simp [Lib.compareBytes] at h
  | _ :: _, [], h => by simp [Lib.compareBytes] at h
  | a :: x, b :: y, h => by
    rw [Lib.compareBytes] at h
    split at h
    · cases h
    · split at h
      · cases h
      · rename_i h1 h2
        have h1' : ¬ a.toNat < b.toNat := h1
        have h2' : ¬ b.toNat < a.toNat := h2
        have : a = b := UInt8.toNat_inj.1 (by omega)
        rw [this, cb_zero x y h]
theorem cb_anti : ∀ x y : List UInt8, Lib.compareBytes y x = - Lib.compareBytes x y
  | [], [] => by simp [Lib.compareBytes]
  | [], _ :: _ => by simp [Lib.compareBytes]
  | _ :: _, [] => by simp [Lib.compareBytes]
  | a :: x, b :: y => by
    rw [Lib.compareBytes, Lib.compareBytes]
    by_cases h1 : a < b
    · have h1' : a.toNat < b.toNat := h1
      have h2 : ¬ b < a := fun h => by have h' : b.toNat < a.toNat := h; omega
      simp [h1, h2]
    · by_cases h2 : b < a
      · simp [h1, h2]
      · simp [h1, h2, cb_anti x y]
theorem cb_trans : ∀ x y z : List UInt8, Lib.compareBytes x y < 0 → Lib.compareBytes y z < 0 → Lib.compareBytes x z < 0
  | _, [], [], _, h => by simp [Lib.compareBytes] at h
  | _ :: _, [], _ :: _, h, _ => by simp [Lib.compareBytes] at h
  | [], [], _, h, _ => by simp [Lib.compareBytes] at h
  | _, _ :: _, [], _, h => by simp [Lib.compareBytes] at h
  | [], _ :: _, _ :: _, _, _ => by simp [Lib.compareBytes]
  | a :: x, b :: y, c :: z, h1, h2 => by
    rw [Lib.compareBytes] at h1 h2 ⊢
    have lt : ∀ p q : UInt8, p < q ↔ p.toNat < q.toNat := fun p q => Iff.rfl
    by_cases k1 : a < b
    · by_cases k2 : b < c
      · have : a < c := by rw [lt] at *; omega
        simp [this]
      · by_cases k3 : c < b
        · simp [k2, k3] at h2
        · have : a < c := by rw [lt] at *; omega
          simp [this]
    · by_cases k1' : b < a
      · simp [k1, k1'] at h1
      · have e : a = b := UInt8.toNat_inj.1 (by rw [lt] at *; omega)
        subst e
        rw [if_neg k1, if_neg k1'] at h1
        by_cases k2 : a < c
        · simp [k2]
        · by_cases k3 : c < a
          · simp [k2, k3] at h2
          · rw [if_neg k2, if_neg k3] at h2 ⊢
            exact cb_trans x y z h1 h2
/-- words compared: by their lengths, then as texts -/
def wcmp (x y : List UInt8) : Int := if x.length < y.length then -1 else if y.length < x.length then 1 else Lib.compareBytes x y
theorem wcmp_anti (x y : List UInt8) : wcmp y x = - wcmp x y := by
  unfold wcmp
  by_cases h1 : x.length < y.length
  · rw [if_pos h1, if_neg (by omega), if_pos h1]; rfl
  · by_cases h2 : y.length < x.length
    · simp [h1, h2]
    · rw [if_neg h1, if_neg h2, if_neg h1, if_neg h2, cb_anti]
theorem wcmp_zero (x y : List UInt8) (h : wcmp x y = 0) : x = y := by
  unfold wcmp at h
  split at h
  · cases h
  · split at h
    · cases h
    · exact cb_zero _ _ h
theorem wcmp_self (x : List UInt8) : wcmp x x = 0 := by unfold wcmp; simp [cb_self]
theorem wcmp_trans (x y z : List UInt8) (h1 : wcmp x y < 0) (h2 : wcmp y z < 0) : wcmp x z < 0 := by
  unfold wcmp at *
  by_cases a1 : x.length < y.length
  · by_cases b1 : y.length < z.length
    · rw [if_pos (by omega)]; omega
    · by_cases b2 : z.length < y.length
      · rw [if_neg b1, if_pos b2] at h2; omega
      · rw [if_pos (by omega)]; omega
  · by_cases a2 : y.length < x.length
    · rw [if_neg a1, if_pos a2] at h1; omega
    · rw [if_neg a1, if_neg a2] at h1
      by_cases b1 : y.length < z.length
      · rw [if_pos (by omega)]; omega
      · by_cases b2 : z.length < y.length
        · rw [if_neg b1, if_pos b2] at h2; omega
        · rw [if_neg b1, if_neg b2] at h2
          rw [if_neg (by omega), if_neg (by omega)]
          exact cb_trans x y z h1 h2
theorem wcmp_swo : Sort.SWO (ltOf wcmp) where
  irrefl x := by unfold ltOf; rw [wcmp_self]; simp
  trans x y z h1 h2 := by
    unfold ltOf at *
    rw [decide_eq_true_eq] at *
    exact wcmp_trans x y z h1 h2
  ntrans x y z h1 h2 := by
    unfold ltOf at *
    rw [decide_eq_false_iff_not] at *
    intro h3
    have a1 := wcmp_anti x y
    have a2 := wcmp_anti y z
    by_cases e1 : wcmp x y = 0
    · rw [wcmp_zero x y e1] at h3; exact h2 h3
    · by_cases e2 : wcmp y z = 0
      · rw [← wcmp_zero y z e2] at h3; exact h1 h3
      · have t := wcmp_trans z y x (by omega) (by omega)
        have a3 := wcmp_anti x z
        omega
theorem wcmp_total (x y : List UInt8) (h1 : ltOf wcmp x y = false) (h2 : ltOf wcmp y x = false) : x = y := by
  unfold ltOf at *
  rw [decide_eq_false_iff_not] at *
  have a1 := wcmp_anti x y
  exact wcmp_zero x y (by omega)
/-- words put in order -/
def sortW (l : List (List UInt8)) : List (List UInt8) := l.mergeSort fun x y => !(ltOf wcmp) y x
/-- words put in order, each once -/
def ordL (l : List (List UInt8)) : List (List UInt8) := Lib.compact (sortW l)
theorem sortW_perm (l : List (List UInt8)) : (sortW l).Perm l := List.mergeSort_perm _ _
theorem sortW_sorted (l : List (List UInt8)) : (sortW l).Pairwise fun x y => wcmp x y ≤ 0 := by
  have h := List.pairwise_mergeSort (le := fun x y => !(ltOf wcmp) y x) (fun a b c h1 h2 => by
    rw [Bool.not_eq_true'] at *
    exact wcmp_swo.ntrans c b a h2 h1) (fun a b => by
    unfold ltOf
    have := wcmp_anti a b
    by_cases h : wcmp a b < 0
    · have : ¬ wcmp b a < 0 := by omega
      simp [this]
    · simp [h]) l
  refine h.imp fun {x y} hxy => ?_
  rw [Bool.not_eq_true'] at hxy
  unfold ltOf at hxy
  rw [decide_eq_false_iff_not] at hxy
  have := wcmp_anti x y
  omega
theorem compact_step (d : Array (List UInt8)) (hs : ∀ i j, i < j → j < d.size → wcmp d[i]! d[j]! ≤ 0) : ∀ m, m ≤ d.size → (∀ x, x ∈ Lib.compactUpTo d m ↔ ∃ j, j < m ∧ d[j]! = x) ∧ (Lib.compactUpTo d m).Pairwise fun x y => wcmp x y < 0
  | 0, _ => by simp [Lib.compactUpTo]
  | m + 1, hm => by
    obtain ⟨h1, h2⟩ := compact_step d hs m (by omega)
    rw [Lib.compactUpTo_succ]
    by_cases hk : Lib.keeps d m = true
    · rw [if_pos hk]
      refine ⟨fun x => ?_, ?_⟩
      · rw [List.mem_append, h1, List.mem_singleton]
        constructor
        · rintro (⟨j, hj, e⟩ | e)
          · exact ⟨j, by omega, e⟩
          · exact ⟨m, by omega, e.symm⟩
        · rintro ⟨j, hj, e⟩
          by_cases c : j = m
          · subst c; exact Or.inr e.symm
          · exact Or.inl ⟨j, by omega, e⟩
      · rw [List.pairwise_append]
        refine ⟨h2, by simp, fun x hx y hy => ?_⟩
        rw [List.mem_singleton] at hy
        subst hy
        obtain ⟨j, hj, rfl⟩ := (h1 x).1 hx
        have h0 : m ≠ 0 := by omega
        have hne : d[m]! ≠ d[m - 1]! := by
          unfold Lib.keeps at hk
          rw [decide_eq_true_eq] at hk
          rcases hk with h | h
          · exact absurd h h0
          · exact h
        have a1 : wcmp d[j]! d[m - 1]! ≤ 0 := by
          by_cases c : j = m - 1
          · subst c; rw [wcmp_self]; exact Int.le_refl _
          · exact hs j (m - 1) (by omega) (by omega)
        have a2 := hs (m - 1) m (by omega) (by omega)
        have a3 : wcmp d[m - 1]! d[m]! ≠ 0 := fun e => hne (wcmp_zero _ _ e).symm
        by_cases c : wcmp d[j]! d[m - 1]! = 0
        · rw [wcmp_zero _ _ c]; omega
        · exact wcmp_trans _ _ _ (by omega) (show wcmp d[m - 1]! d[m]! < 0 by omega)
    · rw [if_neg hk, List.append_nil]
      refine ⟨fun x => ?_, h2⟩
      rw [h1]
      have h0 : m ≠ 0 := by
        rintro rfl
        exact hk (Lib.keeps_lt_one d 0 (by omega))
      have he : d[m]! = d[m - 1]! := by
        apply Classical.byContradiction
        intro hne
        exact hk (Lib.keeps_pos hne)
      constructor
      · rintro ⟨j, hj, e⟩; exact ⟨j, by omega, e⟩
      · rintro ⟨j, hj, e⟩
        by_cases c : j = m
        · subst c; exact ⟨j - 1, by omega, by rw [← he]; exact e⟩
        · exact ⟨j, by omega, e⟩
/-- what stands in an ordered list -/
theorem mem_ordL (l : List (List UInt8)) (x : List UInt8) : x ∈ ordL l ↔ x ∈ l := by
  have hs : ∀ i j, i < j → j < (sortW l).toArray.size → wcmp (sortW l).toArray[i]! (sortW l).toArray[j]! ≤ 0 := by
    intro i j hij hj
    have hj' : j < (sortW l).length := by simpa using hj
    have := List.pairwise_iff_getElem.1 (sortW_sorted l) i j (by omega) hj' hij
    simpa [show i < (sortW l).length by omega, hj'] using this
  have h := (compact_step (sortW l).toArray hs (sortW l).length (by simp)).1 x
  unfold ordL Lib.compact
  rw [h, ← (sortW_perm l).mem_iff]
  constructor
  · rintro ⟨j, hj, rfl⟩
    simp only [List.getElem!_toArray, List.getElem!_eq_getElem?_getD, List.getElem?_eq_getElem hj, Option.getD_some]
    exact List.getElem_mem hj
  · intro hx
    obtain ⟨j, hj, rfl⟩ := List.getElem_of_mem hx
    exact ⟨j, hj, by simp [hj]⟩
/-- an ordered list rises -/
theorem ordL_rises (l : List (List UInt8)) : (ordL l).Pairwise fun x y => wcmp x y < 0 := by
  have hs : ∀ i j, i < j → j < (sortW l).toArray.size → wcmp (sortW l).toArray[i]! (sortW l).toArray[j]! ≤ 0 := by
    intro i j hij hj
    have hj' : j < (sortW l).length := by simpa using hj
    have := List.pairwise_iff_getElem.1 (sortW_sorted l) i j (by omega) hj' hij
    simpa [show i < (sortW l).length by omega, hj'] using this
  exact (compact_step (sortW l).toArray hs (sortW l).length (by simp)).2
/-- two rising lists with the same words are one -/
theorem rises_unique : ∀ (a b : List (List UInt8)), a.Pairwise (fun x y => wcmp x y < 0) → b.Pairwise (fun x y => wcmp x y < 0) → (∀ x, x ∈ a ↔ x ∈ b) → a = b
  | [], [], _, _, _ => rfl
  | [], y :: b, _, _, h => by have := (h y).2 (by simp); simp at this
  | x :: a, [], _, _, h => by have := (h x).1 (by simp); simp at this
  | x :: a, y :: b, ha, hb, h => by
    obtain ⟨ha1, ha2⟩ := List.pairwise_cons.1 ha
    obtain ⟨hb1, hb2⟩ := List.pairwise_cons.1 hb
    have e : x = y := by
      rcases List.mem_cons.1 ((h x).1 (by simp)) with e | hx
      · exact e
      · rcases List.mem_cons.1 ((h y).2 (by simp)) with e | hy
        · exact e.symm
        · have h1 := ha1 y hy
          have h2 := hb1 x hx
          have := wcmp_anti x y
          omega
    subst e
    rw [rises_unique a b ha2 hb2 (fun z => ?_)]
    constructor
    · intro hz
      rcases List.mem_cons.1 ((h z).1 (List.mem_cons_of_mem _ hz)) with e | hz'
      · subst e; have := ha1 z hz; rw [wcmp_self] at this; omega
      · exact hz'
    · intro hz
      rcases List.mem_cons.1 ((h z).2 (List.mem_cons_of_mem _ hz)) with e | hz'
      · subst e; have := hb1 z hz; rw [wcmp_self] at this; omega
      · exact hz'
/-- the list of words itself, in order and each once -/
def impl_ordered.f (l0 : List ByteArray) : Option (List ByteArray) := if l0.length ≤ 8796093021952 then some ((ordL (l0.map fun s => s.data.toList)).map fun x => ⟨x.toArray⟩) else none
end Go.Proofs.YtpldfbkknkhlaaaDoor.Hand
