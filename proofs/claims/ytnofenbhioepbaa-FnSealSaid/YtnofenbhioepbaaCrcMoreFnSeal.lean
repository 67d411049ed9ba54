/- Plain: a checksum that goes on, by the program and by the reference. -/
import Derived.Test.YtnofenbhioepbaaCrcFnSeal
import Derived.Test.YtnofenbhioepbaaLongFnSeal
namespace Go.Proofs.Ytnofenbhioepbaa.QFnSeal
open Go Go.RowKit Go.Proofs.Ytnofenbhioepbaa.Bits Go.Proofs.YtnofenbhioepbaaW.PrintWords

theorem in_is (a b c : Int) : impl_in.f a b c = some (decide (b ≤ a ∧ a ≤ c)) := by
  unfold impl_in.f
  by_cases h : a ≥ b
  · rw [if_pos h]; simp [show b ≤ a from h]
  · rw [if_neg h, decide_eq_false (by omega)]
theorem more_spec (c : Int) (a : ByteArray) {k : Nat} (hk : 10 * a.size + 2 ≤ k) (ha : a.size ≤ 20000) (h0 : 0 ≤ c) (h1 : c ≤ 4294967295) : spec_CrcMore.f k c a = some ((crcV c.toNat a : Nat) : Int) := by
  unfold spec_CrcMore.f
  rw [if_neg (by omega), if_neg (by omega), if_neg (by omega)]
  obtain ⟨n, rfl⟩ := Int.eq_ofNat_of_zero_le h0
  rw [spec_crc a (by omega) n k (by omega) (by omega)]
  simp
theorem more_impl (c : Int) (a : ByteArray) {k : Nat} (hk : 10 * a.size + 2 ≤ k) (ha : a.size ≤ 20000) (h0 : 0 ≤ c) (h1 : c ≤ 4294967295) : impl_CrcMore.f k c a = some ((crcV c.toNat a : Nat) : Int) := by
  unfold impl_CrcMore.f
  rw [long_one a (by omega), Option.bind_some, if_neg (by simp only [decide_eq_true_eq]; omega), in_is, Option.bind_some, if_pos (decide_eq_true ⟨h0, h1⟩)]
  obtain ⟨n, rfl⟩ := Int.eq_ofNat_of_zero_le h0
  have e : (n : Int) % 4294967296 = (n : Int) := by omega
  have hn : n < 4294967296 := by omega
  rw [e, not_u32 hn, impl_crcOn_f a (by omega) _ k (xor_lt hn (by omega)) (by omega), Option.bind_some]
  rw [not_u32 (crcL_lt _ (xor_lt hn (by omega)))]
  have h3 := crcV_lt hn a
  have e2 : ((n : Nat) : Int).toNat = n := by omega
  rw [e2]
  unfold crcV at h3 ⊢
  congr 1
  unfold wrap64
  omega
end Go.Proofs.Ytnofenbhioepbaa.QFnSeal
