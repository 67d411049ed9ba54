/- Plain: the place of a peer. -/
import Derived.Test.YtjchggdekbnmnaaDoorDialbackFnExactDbResult
set_option linter.unusedSimpArgs false
set_option linter.unusedVariables false
namespace Go.Proofs.YtjchggdekbnmnaaDoor.QFnExactDbResult
open Go Go.RowKit Go.Proofs.YtjchggdekbnmnaaDoorW.PrintWords

/-! ### the place of a peer -/
def place (id : Int) : List S71 → Nat → Int
  | [], _ => -1
  | x :: l, i => if x.f1 = id then (i : Int) else place id l (i + 1)
theorem place_range (id : Int) : ∀ (l : List S71) (i : Nat), place id l i < 0 ∨ ((i : Int) ≤ place id l i ∧ place id l i < ((i + l.length : Nat) : Int))
  | [], i => .inl (by show (-1 : Int) < 0; decide)
  | x :: l, i => by
    unfold place
    by_cases c : x.f1 = id
    · rw [if_pos c]; refine .inr ⟨Int.le_refl _, ?_⟩; simp only [List.length_cons]; omega
    · rw [if_neg c]
      rcases place_range id l (i + 1) with h | ⟨h1, h2⟩
      · exact .inl h
      · refine .inr ⟨by omega, ?_⟩; simp only [List.length_cons]; omega
theorem place_peerAt (id : Int) : ∀ (l : List S71) (i : Nat), impl_peerAt.idx id l (i : Int) = place id l i
  | [], i => rfl
  | x :: l, i => by
    unfold place impl_peerAt.idx
    by_cases c : x.f1 = id
    · rw [if_pos c, if_pos c]
    · rw [if_neg c, if_neg c, show ((i : Int) + 1) = ((i + 1 : Nat) : Int) by omega]
      exact place_peerAt id l (i + 1)
theorem place_loop (id : Int) (a : ByteArray) (n : Int) (L : List S71) (hL : L.length ≤ 1048576) : ∀ (d i : Nat), i + d = L.length → ∀ K, d + 1 ≤ K → spec_l06Peer.l0 K id (i : Int) a n L = some (place id (L.drop i) i)
  | 0, i, h, K, hK => by
    obtain ⟨K, rfl⟩ : ∃ k, K = k + 1 := ⟨K - 1, by omega⟩
    rw [spec_l06Peer.l0, if_neg (by omega), List.drop_eq_nil_of_le (by omega)]
    rfl
  | d + 1, i, h, K, hK => by
    obtain ⟨K, rfl⟩ : ∃ k, K = k + 1 := ⟨K - 1, by omega⟩
    have hi : i < L.length := by omega
    rw [spec_l06Peer.l0, if_pos (by omega), if_pos (by omega), rd71 L i hi, List.drop_eq_getElem_cons hi, place]
    by_cases c : L[i].f1 = id
    · rw [if_pos c, if_pos c]
    · rw [if_neg c, if_neg c, wrap64_at ((i : Int) + 1) (by omega), show ((i : Int) + 1) = ((i + 1 : Nat) : Int) by omega]
      exact place_loop id a n L hL d (i + 1) (by omega) K (by omega)
theorem peer_alike (id : Int) (a : ByteArray) (n : Int) (L : List S71) (hL : L.length ≤ 1048576) (K : Nat) (hK : L.length + 1 ≤ K) :
    ∃ p : Int, spec_l06Peer.f K a n L id = some p ∧ impl_peerAt.f a n L id = some p ∧ (p < 0 ∨ (0 ≤ p ∧ p < (L.length : Int))) := by
  refine ⟨place id L 0, ?_, ?_, ?_⟩
  · exact place_loop id a n L hL L.length 0 (by omega) K hK
  · unfold impl_peerAt.f
    exact congrArg some (place_peerAt id L 0)
  · rcases place_range id L 0 with h | ⟨h1, h2⟩
    · exact .inl h
    · exact .inr ⟨by omega, by omega⟩
end Go.Proofs.YtjchggdekbnmnaaDoor.QFnExactDbResult
