/- Plain: what 'long' tells of one text. -/
import Derived.Test.YtnofenbhioepbaaQFnSealx
namespace Go.Proofs.Ytnofenbhioepbaa.QFnSeal
open Go Go.RowKit Go.Proofs.YtnofenbhioepbaaW.PrintWords

theorem long_one (a : ByteArray) {k : Nat} (hk : 1 < k) : impl_long.f k ([a] : List ByteArray) = some (decide ((a.size : Int) > 20000)) := by
  obtain ⟨k, rfl⟩ : ∃ m, k = m + 2 := ⟨k - 2, by omega⟩
  unfold impl_long.f
  rw [show ((([a] : List ByteArray).length : Nat) : Int) = 1 from rfl]
  simp only [impl_long.l0]
  rw [if_pos (by omega), if_pos (by omega), if_pos (by simp)]
  have e : rdOf ByteArray.empty [a] 0 = a := rfl
  rw [e]
  by_cases h : (a.size : Int) > 20000
  · rw [if_pos h, decide_eq_true h]
  · rw [if_neg h, decide_eq_false h, if_neg (by unfold wrap64; omega)]
end Go.Proofs.Ytnofenbhioepbaa.QFnSeal
