/- Plain: the order of texts; the binary search finds the first that isn't less. -/
import Derived.Test.YtgfmapilimlamaaProg
import Derived.Below
namespace Go.Proofs.Ytgfmapilimlamaa.RosterPlain
open Go
theorem less_irrefl : ∀ x : List UInt8, Op.bytesLess x x = false
  | [] => rfl
  | a :: x => by
    have h : ¬ a < a := UInt8.lt_irrefl a
    simp [Op.bytesLess, less_irrefl x]
theorem less_trans : ∀ x y z : List UInt8, Op.bytesLess x y = true → Op.bytesLess y z = true → Op.bytesLess x z = true
  | x, y, [], h1, h2 => by cases y <;> simp [Op.bytesLess] at h2
  | x, [], c :: z, h1, h2 => by cases x <;> simp [Op.bytesLess] at h1
  | [], b :: y, c :: z, h1, h2 => by simp [Op.bytesLess]
  | a :: x, b :: y, c :: z, h1, h2 => by
    simp only [Op.bytesLess, Bool.or_eq_true, Bool.and_eq_true, decide_eq_true_eq, beq_iff_eq] at h1 h2 ⊢
    rcases h1 with h1 | ⟨rfl, h1⟩
    · rcases h2 with h2 | ⟨rfl, h2⟩
      · exact .inl (UInt8.lt_trans h1 h2)
      · exact .inl h1
    · rcases h2 with h2 | ⟨rfl, h2⟩
      · exact .inl h2
      · exact .inr ⟨rfl, less_trans x y z h1 h2⟩
theorem less_tri : ∀ x y : List UInt8, Op.bytesLess x y = false → Op.bytesLess y x = false → x = y
  | [], [], _, _ => rfl
  | [], b :: y, h1, _ => by simp [Op.bytesLess] at h1
  | a :: x, [], _, h2 => by simp [Op.bytesLess] at h2
  | a :: x, b :: y, h1, h2 => by
    simp only [Op.bytesLess, Bool.or_eq_false_iff, Bool.and_eq_false_iff, decide_eq_false_iff_not] at h1 h2
    have hab : a = b := by
      have h3 := UInt8.not_lt.1 h1.1
      have h4 := UInt8.not_lt.1 h2.1
      exact UInt8.le_antisymm h4 h3
    subst hab
    rcases h1.2 with h | h
    · simp at h
    · rcases h2.2 with h' | h'
      · simp at h'
      · rw [less_tri x y h h']
/-- The library's search over what is so ahead of some place and not so behind. -/
def search (p : Nat → Bool) : Nat → Nat → Nat → Nat
  | 0, i, _ => i
  | k + 1, i, j => if i < j then (if p ((i + j) / 2) = true then search p k ((i + j) / 2 + 1) j else search p k i ((i + j) / 2)) else i
theorem search_spec (p : Nat → Bool) (n : Nat) (hp : ∀ i j, i ≤ j → j < n → p j = true → p i = true) : ∀ (k i j : Nat), i ≤ j → j ≤ n → j - i < k → (∀ t, t < i → p t = true) → (∀ t, j ≤ t → t < n → p t = false) →
    search p k i j ≤ n ∧ (∀ t, t < search p k i j → p t = true) ∧ (∀ t, search p k i j ≤ t → t < n → p t = false)
  | 0, i, j, h1, h2, h3, h4, h5 => by omega
  | k + 1, i, j, h1, h2, h3, h4, h5 => by
    unfold search
    by_cases c : i < j
    · rw [if_pos c]
      by_cases q : p ((i + j) / 2) = true
      · rw [if_pos q]
        refine search_spec p n hp k _ j (by omega) h2 (by omega) (fun t ht => ?_) h5
        exact hp t ((i + j) / 2) (by omega) (by omega) q
      · rw [if_neg q]
        refine search_spec p n hp k i _ (by omega) (by omega) (by omega) h4 (fun t ht htn => ?_)
        cases e : p t with
        | false => rfl
        | true => exact absurd (hp ((i + j) / 2) t ht htn e) q
    · rw [if_neg c]
      have : i = j := by omega
      subst this
      exact ⟨h2, h4, h5⟩
end Go.Proofs.Ytgfmapilimlamaa.RosterPlain
