/- Plain: what a right dialback has: few peers, short domains, a number in its range. -/
import Derived.Test.YtjchggdekbnmnaaDoorDialbackFnExactDbOpen
set_option linter.unusedSimpArgs false
set_option linter.unusedVariables false
namespace Go.Proofs.YtjchggdekbnmnaaDoor.QFnExactDbOpen
open Go Go.RowKit Go.Proofs.YtjchggdekbnmnaaDoorW.PrintWords
theorem dom_size (x : ByteArray) (k : Nat) (h : spec_l05Domain.f k x = some true) : x.size ≤ 30 := by
  apply Decidable.byContradiction
  intro hn
  unfold spec_l05Domain.f spec_l03Domain.f at h
  rw [if_neg (by omega : ¬ (x.size : Int) < 1), if_pos (by omega)] at h
  cases k with
  | zero => simp [spec_l03Domain.j0] at h
  | succ k =>
    rw [spec_l03Domain.j0, if_pos rfl] at h
    simp at h
theorem peers_size (a : ByteArray) (n : Int) (L : List S71) (hL : L.length ≤ 1048576) : ∀ (k i : Nat), spec_DialbackRight.l0 k (i : Int) a n L = some true → ∀ j (h : j < L.length), i ≤ j → L[j].f0.size ≤ 30
  | 0, i, h, j, hj, hij => by simp [spec_DialbackRight.l0] at h
  | k + 1, i, h, j, hj, hij => by
    have hi : i < L.length := by omega
    rw [spec_DialbackRight.l0, if_pos (by omega), if_pos (by omega), rd71 L i hi] at h
    cases hd : spec_l05Domain.f k L[i].f0 with
    | none => rw [hd] at h; simp at h
    | some q =>
      rw [hd] at h
      cases q with
      | false => simp at h
      | true =>
        by_cases hji : j = i
        · subst hji; exact dom_size _ k hd
        · have hw : wrap64 ((i : Int) + 1) = ((i + 1 : Nat) : Int) := by rw [wrap64_at _ (by omega)]; omega
          have hrec : spec_DialbackRight.l0 k ((i + 1 : Nat) : Int) a n L = some true := by
            rw [hw] at h
            generalize spec_DialbackRight.l0 k ((i + 1 : Nat) : Int) a n L = R at h ⊢
            obtain ⟨q2, f2, _⟩ := is_some L[i].f1 1 (wrap64 (n - 1))
            obtain ⟨q3, f3, _⟩ := is_some L[i].f2 0 3
            simp only [Option.bind_some, if_true, f2, f3] at h
            repeat' split at h
            all_goals first | exact h | exact absurd h (by simp)
          exact peers_size a n L hL k (i + 1) hrec j hj (by omega)
theorem right_facts (a : ByteArray) (n : Int) (L : List S71) (hL : L.length ≤ 1048576) (k : Nat) (h : spec_DialbackRight.f k a n L = some true) : L.length ≤ 10 ∧ 1 ≤ n ∧ n ≤ 1000000000 ∧ ∀ x ∈ L, x.f0.size ≤ 30 := by
  unfold spec_DialbackRight.f at h
  have hj : ∀ k' : Nat, spec_DialbackRight.j0 k' true a n L ≠ some true := by
    intro k'
    cases k' with
    | zero => simp [spec_DialbackRight.j0]
    | succ k' => rw [spec_DialbackRight.j0, if_pos rfl]; simp
  cases hd : spec_l05Domain.f k a with
  | none => rw [hd] at h; simp at h
  | some q =>
    rw [hd] at h
    cases q with
    | false => simp only [Option.bind_some, if_neg (by decide : ¬ (false = true))] at h; exact absurd h (hj k)
    | true =>
      simp only [Option.bind_some, if_true] at h
      unfold spec_l03Is.f at h
      by_cases c1 : n ≥ 1
      · rw [if_pos c1] at h
        simp only [Option.bind_some] at h
        by_cases c2 : n ≤ 1000000000
        · rw [if_pos (decide_eq_true c2)] at h
          cases k with
          | zero => simp [spec_DialbackRight.j0] at h
          | succ k =>
            rw [spec_DialbackRight.j0] at h
            by_cases c3 : (L.length : Int) > 10
            · rw [if_pos (decide_eq_true c3)] at h; simp at h
            · rw [if_neg (by simpa using c3)] at h
              refine ⟨by omega, c1, c2, fun x hx => ?_⟩
              obtain ⟨j, hj', rfl⟩ := List.mem_iff_getElem.1 hx
              exact peers_size a n L hL k 0 h j hj' (Nat.zero_le _)
        · rw [if_neg (by simpa using c2)] at h; exact absurd h (hj k)
      · rw [if_neg c1] at h
        simp only [Option.bind_some, if_neg (by decide : ¬ (false = true))] at h
        exact absurd h (hj k)
end Go.Proofs.YtjchggdekbnmnaaDoor.QFnExactDbOpen
