/- Plain: the checksum of a text, by the program and by the reference. -/
import Derived.Test.YtnofenbhioepbaaCrcFnSeal
import Derived.Test.YtnofenbhioepbaaLongFnSeal

set_option linter.unusedSimpArgs false
namespace Go.Proofs.Ytnofenbhioepbaa.QFnSeal
open Go Go.RowKit Go.Proofs.Ytnofenbhioepbaa.Bits Go.Proofs.YtnofenbhioepbaaW.PrintWords

theorem impl_crc (a : ByteArray) {k : Nat} (hk : 10 * a.size + 2 ≤ k) (ha : a.size ≤ 20000) : impl_Crc.f k a = some ((crcV 0 a : Nat) : Int) := by
  unfold impl_Crc.f
  rw [long_one a (by omega), Option.bind_some, if_neg (by simp only [decide_eq_true_eq]; omega)]
  have h := impl_crcOn_f a (by omega) 4294967295 k (by omega) (by omega)
  rw [show ((4294967295 : Nat) : Int) = 4294967295 from rfl] at h
  rw [h, Option.bind_some]
  have hl := crcL_lt a.data.toList (r := 4294967295) (by omega)
  rw [not_u32 hl]
  have h3 := crcV_lt (c := 0) (by omega) a
  unfold crcV at h3 ⊢
  rw [Nat.zero_xor] at h3 ⊢
  congr 1
  unfold wrap64
  omega
theorem spec_crc0 (a : ByteArray) {k : Nat} (hk : 10 * a.size + 1 ≤ k) (ha : a.size ≤ 1048576) : spec_l01Crc.f k 0 a = some ((crcV 0 a : Nat) : Int) := by
  have h := spec_crc a ha 0 k (by omega) hk
  rw [show ((0 : Nat) : Int) = 0 from rfl] at h
  exact h
end Go.Proofs.Ytnofenbhioepbaa.QFnSeal
