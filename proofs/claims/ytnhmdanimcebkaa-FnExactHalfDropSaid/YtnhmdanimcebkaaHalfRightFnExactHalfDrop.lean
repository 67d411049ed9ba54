/- Plain: a half is right by the program just where it is right by the reference. -/
import Derived.Test.YtnhmdanimcebkaaQFnExactHalfDropx
namespace Go.Proofs.Ytnhmdanimcebkaa.QFnExactHalfDrop
open Go Go.RowKit Go.Proofs.YtnhmdanimcebkaaW.PrintWords

def rightB (n o t i f : Int) : Bool :=
  decide (0 ≤ n ∧ n ≤ 1000000000) && (decide (0 ≤ o ∧ o ≤ n) && decide (0 ≤ t ∧ t ≤ n) && (decide (o = 0) || decide (t = 0))) &&
    (decide (0 ≤ i ∧ i ≤ 1000000000) && decide (0 ≤ f ∧ f ≤ 1000000000) && (decide (i = 0) || decide (f = 0)))
theorem spec_is (a b c : Int) : spec_l03Is.f a b c = some (decide (b ≤ a ∧ a ≤ c)) := by
  unfold spec_l03Is.f
  by_cases h : a ≥ b
  · rw [if_pos h]; simp [show b ≤ a from h]
  · rw [if_neg h, decide_eq_false (by omega)]
theorem impl_is (a b c : Int) : impl_in.f a b c = some (decide (b ≤ a ∧ a ≤ c)) := by
  unfold impl_in.f
  by_cases h : a ≥ b
  · rw [if_pos h]; simp [show b ≤ a from h]
  · rw [if_neg h, decide_eq_false (by omega)]
theorem pair_is (a b c : Int) : impl_pairOk.f a b c = some (decide (0 ≤ a ∧ a ≤ c) && decide (0 ≤ b ∧ b ≤ c) && (decide (a = 0) || decide (b = 0))) := by
  unfold impl_pairOk.f
  rw [impl_is, impl_is]
  simp only [Option.bind_some]
  by_cases h1 : 0 ≤ a ∧ a ≤ c
  · rw [if_pos (decide_eq_true h1)]
    by_cases h2 : 0 ≤ b ∧ b ≤ c
    · rw [if_pos (decide_eq_true h2), decide_eq_true h1, decide_eq_true h2]
      by_cases h3 : a = 0
      · rw [if_pos h3]; simp [h3]
      · rw [if_neg h3, decide_eq_false h3]; simp; rfl
    · rw [if_neg (by simpa using h2), decide_eq_false h2]; simp
  · rw [if_neg (by simpa using h1), decide_eq_false h1]; simp
theorem right_impl (n o t i f : Int) : impl_HalfRight.f n o t i f = some (rightB n o t i f) := by
  unfold impl_HalfRight.f impl_isTime.f rightB
  rw [impl_is, pair_is, pair_is]
  simp only [Option.bind_some]
  by_cases h1 : 0 ≤ n ∧ n ≤ 1000000000
  · rw [if_pos (decide_eq_true h1), decide_eq_true h1]
    cases (decide (0 ≤ o ∧ o ≤ n) && decide (0 ≤ t ∧ t ≤ n) && (decide (o = 0) || decide (t = 0))) <;> simp
  · rw [if_neg (by simpa using h1), decide_eq_false h1]; simp
theorem right_spec (n o t i f : Int) : spec_HalfRight.f n o t i f = some (rightB n o t i f) := by
  unfold spec_HalfRight.f rightB
  simp only [spec_is, Option.bind_some]
  generalize decide (0 ≤ n ∧ n ≤ 1000000000) = b1
  generalize decide (0 ≤ o ∧ o ≤ n) = b2
  generalize decide (0 ≤ t ∧ t ≤ n) = b3
  generalize decide (0 ≤ i ∧ i ≤ 1000000000) = b4
  generalize decide (0 ≤ f ∧ f ≤ 1000000000) = b5
  have e : decide (f = 0) = (f == 0) := rfl
  rw [e]
  generalize (f == 0) = b6
  by_cases h4 : o = 0 <;> by_cases h5 : t = 0 <;> by_cases h6 : i = 0 <;> simp only [h4, h5, h6, if_true, if_false, decide_true, decide_false] <;>
    cases b1 <;> cases b2 <;> cases b3 <;> cases b4 <;> cases b5 <;> rfl
end Go.Proofs.Ytnhmdanimcebkaa.QFnExactHalfDrop
