/- Plain: the checksum and the seal of a text, by the program and by the reference. -/
import Derived.Test.YtnofenbhioepbaaSealLessFnSeal
import Derived.Test.YtnofenbhioepbaaBytes
set_option linter.unusedSimpArgs false
namespace Go.Proofs.Ytnofenbhioepbaa.QFnSeal
open Go Go.RowKit Go.Proofs.Ytnofenbhioepbaa.Bits Go.Proofs.Ytnofenbhioepbaa.Bytes Go.Proofs.YtnofenbhioepbaaW.PrintWords

/-- The four bytes of a number. -/
def four (c : Nat) : ByteArray := strOfNums (([((c : Nat) : Int) % 256, (((c : Nat) : Int) / 256) % 256, (((c : Nat) : Int) / 65536) % 256, (((c : Nat) : Int) / 16777216) % 256] : List Int))
theorem four_size (c : Nat) : (four c).size = 4 := by simp [four, strOfNums, ByteArray.size]
def sealS (a : ByteArray) : ByteArray := if (a.size : Int) > 19996 then (⟨#[]⟩ : ByteArray) else a ++ four (crcV 0 a)
theorem impl_seal (a : ByteArray) {k : Nat} (hk : 10 * a.size + 2 ≤ k) : impl_Seal.f k a = some (sealS a) := by
  unfold impl_Seal.f sealS
  by_cases h : (a.size : Int) > 19996
  · rw [if_pos h, if_pos h]
  · rw [if_neg h, if_neg h, impl_crc a hk (by omega)]
    simp only [Option.bind_some]
    have e : strOfNums (([((crcV 0 a : Nat) : Int) % 256, (((crcV 0 a : Nat) : Int) / 256) % 256, (((crcV 0 a : Nat) : Int) / 65536) % 256, (((crcV 0 a : Nat) : Int) / 16777216) % 256] : List Int)) = four (crcV 0 a) := rfl
    rw [e, four_size, if_pos (by omega)]
end Go.Proofs.Ytnofenbhioepbaa.QFnSeal
