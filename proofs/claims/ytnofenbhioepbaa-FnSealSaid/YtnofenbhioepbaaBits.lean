/- Plain lemmas on the bit operations of whole numbers, as the walk spells them. No program in sight. -/
import Derived.Laws.Entries
import Derived.RowKit
namespace Go.Proofs.Ytnofenbhioepbaa.Bits
open Go Go.RowKit

theorem wrap_u64 (n : Int) : IntKind.u64.wrap n = n % 18446744073709551616 := by simp [IntKind.wrap, IntKind.bits, IntKind.signed]
theorem wrap_u32 (n : Int) : IntKind.u32.wrap n = n % 4294967296 := by simp [IntKind.wrap, IntKind.bits, IntKind.signed]
theorem wrap_u8 (n : Int) : IntKind.u8.wrap n = n % 256 := by simp [IntKind.wrap, IntKind.bits, IntKind.signed]

theorem bits_all (k : IntKind) (hk : ∀ n : Int, 0 ≤ n → n < 2 ^ k.bits → k.wrap n = n) (a b : Nat) (ha : a < 2 ^ k.bits) (hb : b < 2 ^ k.bits) :
    bits .and k a b = ((a &&& b : Nat) : Int) ∧ bits .or k a b = ((a ||| b : Nat) : Int) ∧ bits .xor k a b = ((a ^^^ b : Nat) : Int) := by
  have cast : ∀ n : Nat, n < 2 ^ k.bits → ((n : Nat) : Int) < 2 ^ k.bits := fun n h => by exact_mod_cast h
  refine ⟨?_, ?_, ?_⟩
  · simp only [bits, BitVec.ofInt_natCast, BitVec.toNat_and, BitVec.toNat_ofNat, Nat.mod_eq_of_lt ha, Nat.mod_eq_of_lt hb]
    exact hk _ (Int.natCast_nonneg _) (cast _ (Nat.and_lt_two_pow _ hb))
  · simp only [bits, BitVec.ofInt_natCast, BitVec.toNat_or, BitVec.toNat_ofNat, Nat.mod_eq_of_lt ha, Nat.mod_eq_of_lt hb]
    exact hk _ (Int.natCast_nonneg _) (cast _ (Nat.or_lt_two_pow ha hb))
  · simp only [bits, BitVec.ofInt_natCast, BitVec.toNat_xor, BitVec.toNat_ofNat, Nat.mod_eq_of_lt ha, Nat.mod_eq_of_lt hb]
    exact hk _ (Int.natCast_nonneg _) (cast _ (Nat.xor_lt_two_pow ha hb))
theorem keep_u32 : ∀ n : Int, 0 ≤ n → n < 2 ^ IntKind.u32.bits → IntKind.u32.wrap n = n := by
  intro n h0 h1
  rw [wrap_u32]
  simp only [IntKind.bits] at h1
  omega
theorem keep_u64 : ∀ n : Int, 0 ≤ n → n < 2 ^ IntKind.u64.bits → IntKind.u64.wrap n = n := by
  intro n h0 h1
  rw [wrap_u64]
  simp only [IntKind.bits] at h1
  omega
theorem keep_u8 : ∀ n : Int, 0 ≤ n → n < 2 ^ IntKind.u8.bits → IntKind.u8.wrap n = n := by
  intro n h0 h1
  rw [wrap_u8]
  simp only [IntKind.bits] at h1
  omega
theorem xor_u32 {a b : Nat} (ha : a < 4294967296) (hb : b < 4294967296) : bits .xor .u32 (a : Int) (b : Int) = ((a ^^^ b : Nat) : Int) :=
  (bits_all .u32 keep_u32 a b (by simp only [IntKind.bits]; omega) (by simp only [IntKind.bits]; omega)).2.2
theorem and_u32 {a b : Nat} (ha : a < 4294967296) (hb : b < 4294967296) : bits .and .u32 (a : Int) (b : Int) = ((a &&& b : Nat) : Int) :=
  (bits_all .u32 keep_u32 a b (by simp only [IntKind.bits]; omega) (by simp only [IntKind.bits]; omega)).1
theorem xor_u8 {a b : Nat} (ha : a < 256) (hb : b < 256) : bits .xor .u8 (a : Int) (b : Int) = ((a ^^^ b : Nat) : Int) :=
  (bits_all .u8 keep_u8 a b (by simp only [IntKind.bits]; omega) (by simp only [IntKind.bits]; omega)).2.2
theorem xor_u64 {a b : Nat} (ha : a < 18446744073709551616) (hb : b < 18446744073709551616) : bits .xor .u64 (a : Int) (b : Int) = ((a ^^^ b : Nat) : Int) :=
  (bits_all .u64 keep_u64 a b (by simp only [IntKind.bits]; omega) (by simp only [IntKind.bits]; omega)).2.2
/-- The low bit of a number. -/
theorem and_one_u32 {a : Nat} (ha : a < 4294967296) : bits .and .u32 (a : Int) 1 = ((a % 2 : Nat) : Int) := by
  have h := and_u32 ha (b := 1) (by omega)
  rw [Nat.and_one_is_mod] at h
  exact h
/-- Exclusive-or with nothing. -/
theorem xor_zero_u64 {a : Nat} (ha : a < 18446744073709551616) : bits .xor .u64 (a : Int) 0 = (a : Int) := by
  have h := xor_u64 ha (b := 0) (by omega)
  rw [Nat.xor_zero] at h
  exact h
/-- Exclusive-or with all ones. -/
theorem nat_xor_ones (w a : Nat) (ha : a < 2 ^ w) : a ^^^ (2 ^ w - 1) = 2 ^ w - 1 - a := by
  have h1 : (BitVec.ofNat w a ^^^ BitVec.allOnes w) = ~~~ (BitVec.ofNat w a) := by
    apply BitVec.eq_of_getLsbD_eq
    intro i hi
    simp [hi]
  have h2 := congrArg BitVec.toNat h1
  rw [BitVec.toNat_xor, BitVec.toNat_not, BitVec.toNat_ofNat, BitVec.toNat_allOnes, Nat.mod_eq_of_lt ha] at h2
  exact h2
theorem xor_ones_u64 {a : Nat} (ha : a < 18446744073709551616) : bits .xor .u64 (a : Int) 18446744073709551615 = 18446744073709551615 - (a : Int) := by
  have h := xor_u64 ha (b := 18446744073709551615) (by omega)
  rw [show (18446744073709551615 : Nat) = 2 ^ 64 - 1 from rfl, nat_xor_ones 64 a (by omega)] at h
  have e : ((2 ^ 64 - 1 - a : Nat) : Int) = 18446744073709551615 - (a : Int) := by omega
  rw [e] at h
  exact h
theorem low_high : ∀ n : Fin 256, (n.val ||| 128) = n.val % 128 + 128 := by decide +kernel
theorem or_high_u8 {a : Nat} (ha : a < 256) : bits .or .u8 (a : Int) 128 = ((a % 128 + 128 : Nat) : Int) := by
  have h1 : bits .or .u8 (a : Int) ((128 : Nat) : Int) = ((a ||| 128 : Nat) : Int) :=
    (bits_all .u8 keep_u8 a 128 (by simp only [IntKind.bits]; omega) (by simp only [IntKind.bits]; omega)).2.1
  have h3 := low_high ⟨a, ha⟩
  simp only at h3
  rw [h3] at h1
  exact h1
end Go.Proofs.Ytnofenbhioepbaa.Bits
