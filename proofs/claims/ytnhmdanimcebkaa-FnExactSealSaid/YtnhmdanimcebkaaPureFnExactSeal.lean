/- Proved: laws.FnExactSeal, as walked, tells true at every text. -/
import Derived.Test.YtnhmdanimcebkaaSealFnExactSeal
namespace Go.Proofs.Ytnhmdanimcebkaa.Pure
open Go.RowKit Go.Proofs.Ytnhmdanimcebkaa.QFnExactSeal Go.Proofs.YtnhmdanimcebkaaW.PrintWords

theorem spec_seal (a : ByteArray) {k : Nat} (hk : 10 * a.size + 2 ≤ k) : spec_Seal.f k a = some (sealS a) := by
  unfold spec_Seal.f sealS
  by_cases h : (a.size : Int) > 19996
  · rw [if_pos h, if_pos h]
  · rw [if_neg h, if_neg h, spec_crc0 a (by omega) (by omega)]
    simp only [Option.bind_some]
    have e : spec_l01Four.f ((crcV 0 a : Nat) : Int) = some (four (crcV 0 a)) := rfl
    rw [e]
    simp only [Option.bind_some]
    rw [four_size, if_pos (by omega)]
theorem FnExactSeal : laws_FnExactSeal.Pure := by
  intro a ha
  refine ⟨10 * a.size + 2, ?_⟩
  unfold laws_FnExactSeal.f
  by_cases h : (a.size : Int) > 1048576
  · rw [if_pos h]
  · rw [if_neg h, spec_seal a (by omega), impl_seal a (by omega)]
    simp
end Go.Proofs.Ytnhmdanimcebkaa.Pure
