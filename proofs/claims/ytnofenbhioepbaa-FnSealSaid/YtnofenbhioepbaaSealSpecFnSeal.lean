/- Plain: what Seal seals, by the reference. -/
import Derived.Test.YtnofenbhioepbaaSealFnSeal
namespace Go.Proofs.Ytnofenbhioepbaa.QFnSeal
open Go Go.RowKit Go.Proofs.YtnofenbhioepbaaW.PrintWords

theorem spec_seal (a : ByteArray) {k : Nat} (hk : 10 * a.size + 2 ≤ k) : spec_Seal.f k a = some (sealS a) := by
  unfold spec_Seal.f sealS
  by_cases h : (a.size : Int) > 19996
  · rw [if_pos h, if_pos h]
  · rw [if_neg h, if_neg h, spec_crc0 a (by omega) (by omega)]
    simp only [Option.bind_some]
    have e : spec_l01Four.f ((crcV 0 a : Nat) : Int) = some (four (crcV 0 a)) := rfl
    rw [e]
    simp only [Option.bind_some]
    rw [four_size, if_pos (by omega)]
end Go.Proofs.Ytnofenbhioepbaa.QFnSeal
