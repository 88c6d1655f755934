/- EvenCost of the program and of the reference answer alike for all arguments: no condition. -/
import Derived.Test.YtfinmeglakcmbaaPFnExactEvenCostx1
namespace Go.Proofs.Ytfinmeglakcmbaa.Pure
set_option linter.unusedSimpArgs false
set_option linter.unusedVariables false
open Go.RowKit Go.Proofs.Ytfinmeglakcmbaa.PFnExactEvenCost Go.Proofs.YtfinmeglakcmbaaW.PrintWords Go.Proofs.YtfinmeglakcmbaaW.PrintLast

theorem l0_eq : ∀ (k : Nat) (a b c d : Int), impl_EvenCost.l0 k a b c d = spec_EvenCost.l0 k a b c d
  | 0, _, _, _, _ => rfl
  | k + 1, a, b, c, d => by
    simp only [impl_EvenCost.l0, spec_EvenCost.l0, l0_eq k]

theorem j0_eq : ∀ (k : Nat) (a b : Int) (c : Bool), impl_EvenCost.j0 k a b c = spec_EvenCost.j0 k a b c
  | 0, _, _, _ => rfl
  | k + 1, a, b, c => by
    simp only [impl_EvenCost.j0, spec_EvenCost.j0, l0_eq k]

theorem f_eq (k : Nat) (a b : Int) : impl_EvenCost.f k a b = spec_EvenCost.f k a b := by
  simp only [impl_EvenCost.f, spec_EvenCost.f, j0_eq, impl_in.f, spec_l1In.f, impl_areLetters.f, spec_krLetters.f, ge_iff_le]

theorem l0_some (n l : Int) (hn : n ≤ 1000000) (hl : 2 ≤ l) (hl3 : l ≤ 3) (m : Nat) : ∀ (k : Nat) (d x : Int), 1 ≤ x → x ≤ 1000000 → (1000000 - x).toNat ≤ m → m < k → ∃ r, spec_EvenCost.l0 k n l d x = some r := by
  induction m with
  | zero =>
    intro k d x h1 h2 h3 h4
    obtain ⟨k, rfl⟩ : ∃ m, k = m + 1 := ⟨k - 1, by omega⟩
    have hw : wrap64 (x * l) = x * l := by
      rcases (show l = 2 ∨ l = 3 by omega) with rfl | rfl <;> (unfold wrap64; omega)
    have hw1 : ¬ (wrap64 (l - 1) = 0) := by unfold wrap64; omega
    have hgt : ¬ (x * l ≤ n) := by
      rcases (show l = 2 ∨ l = 3 by omega) with rfl | rfl <;> omega
    simp only [spec_EvenCost.l0, hw]
    rw [if_neg hgt, if_neg hw1]
    exact ⟨_, rfl⟩
  | succ m ih =>
    intro k d x h1 h2 h3 h4
    obtain ⟨k, rfl⟩ : ∃ m, k = m + 1 := ⟨k - 1, by omega⟩
    have hw : wrap64 (x * l) = x * l := by
      rcases (show l = 2 ∨ l = 3 by omega) with rfl | rfl <;> (unfold wrap64; omega)
    have hw1 : ¬ (wrap64 (l - 1) = 0) := by unfold wrap64; omega
    have hgrow : x + 1 ≤ x * l := by
      rcases (show l = 2 ∨ l = 3 by omega) with rfl | rfl <;> omega
    simp only [spec_EvenCost.l0, hw]
    by_cases hle : x * l ≤ n
    · rw [if_pos hle]
      exact ih k _ (x * l) (by omega) (by omega) (by omega) (by omega)
    · rw [if_neg hle, if_neg hw1]
      exact ⟨_, rfl⟩

theorem f_some (n l : Int) : ∃ r, spec_EvenCost.f 1000003 n l = some r := by
  simp only [spec_EvenCost.f, spec_l1In.f, spec_krLetters.f, ge_iff_le]
  by_cases h1 : 1 ≤ n
  · by_cases h2 : n ≤ 1000000
    · by_cases h3 : 2 ≤ l
      · by_cases h4 : l ≤ 3
        · by_cases h5 : n = 1
          · exact ⟨(1, true), by simp [h2, h3, h4, h5, spec_EvenCost.j0]⟩
          · obtain ⟨r, hr⟩ := l0_some n l h2 h3 h4 999999 1000002 0 1 (by omega) (by omega) (by omega) (by omega)
            exact ⟨r, by simp only [h1, h2, h3, h4, h5, spec_EvenCost.j0, hr, if_true, if_false, decide_true, Option.bind_some, Bool.not_true, Bool.false_eq_true]⟩
        · exact ⟨(0, false), by simp [h1, h2, h3, h4, spec_EvenCost.j0]⟩
      · exact ⟨(0, false), by simp [h1, h2, h3, spec_EvenCost.j0]⟩
    · exact ⟨(0, false), by simp [h1, h2, spec_EvenCost.j0]⟩
  · exact ⟨(0, false), by simp [h1, spec_EvenCost.j0]⟩

theorem FnExactEvenCost : laws_FnExactEvenCost.Pure := by
  intro a b _ _
  obtain ⟨r, hr⟩ := f_some a b
  refine ⟨1000003, ?_⟩
  simp only [laws_FnExactEvenCost.f, f_eq, hr, Option.bind_some, if_true, bne_self_eq_false, Bool.false_eq_true, if_false]

end Go.Proofs.Ytfinmeglakcmbaa.Pure
