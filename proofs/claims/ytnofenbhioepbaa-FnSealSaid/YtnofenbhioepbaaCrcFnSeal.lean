/- Plain: the checksum's register, as the program turns it and as the reference does. No condition. -/
import Derived.Test.YtnofenbhioepbaaQFnSealx
import Derived.Test.YtnofenbhioepbaaBits
set_option linter.unusedSimpArgs false
namespace Go.Proofs.Ytnofenbhioepbaa.QFnSeal
open Go Go.RowKit Go.Proofs.Ytnofenbhioepbaa.Bits Go.Proofs.YtnofenbhioepbaaW.PrintWords

/-- One bit's turn of the register. -/
def stepR (r : Nat) : Nat := if r % 2 = 1 then (r / 2) ^^^ 3988292384 else r / 2
def stepN : Nat → Nat → Nat
  | 0, r => r
  | d + 1, r => stepN d (stepR r)
def crcB (r b : Nat) : Nat := stepN 8 (r ^^^ b)
def crcL (r : Nat) (l : List UInt8) : Nat := l.foldl (fun r b => crcB r b.toNat) r
theorem xor_lt {a b : Nat} (ha : a < 4294967296) (hb : b < 4294967296) : a ^^^ b < 4294967296 := Nat.xor_lt_two_pow (n := 32) ha hb
theorem stepR_lt {r : Nat} (h : r < 4294967296) : stepR r < 4294967296 := by
  unfold stepR
  split
  · exact xor_lt (by omega) (by omega)
  · omega
theorem stepN_lt (d : Nat) : ∀ {r : Nat}, r < 4294967296 → stepN d r < 4294967296 := by
  induction d with
  | zero => intro r h; exact h
  | succ d ih => intro r h; exact ih (stepR_lt h)
theorem crcB_lt {r b : Nat} (h : r < 4294967296) (hb : b < 256) : crcB r b < 4294967296 := stepN_lt 8 (xor_lt h (by omega))
theorem crcL_lt (l : List UInt8) : ∀ {r : Nat}, r < 4294967296 → crcL r l < 4294967296 := by
  induction l with
  | nil => intro r h; exact h
  | cons b l ih => intro r h; exact ih (crcB_lt h (by have := b.toNat_lt; omega))
/-- The program's eight rounds: the byte is shifted beside the register. -/
def turnN : Nat → Nat → Nat → Nat
  | 0, x, _ => x
  | d + 1, x, b => turnN d (if (b ^^^ x) % 2 = 1 then (x / 2) ^^^ 3988292384 else x / 2) (b / 2)
theorem half_xor (a b : Nat) : (a ^^^ b) / 2 = a / 2 ^^^ b / 2 := by
  have := Nat.shiftRight_xor_distrib (a := a) (b := b) (i := 1)
  simpa [Nat.shiftRight_eq_div_pow] using this
theorem turnN_eq (d : Nat) : ∀ (x b : Nat), b < 2 ^ d → turnN d x b = stepN d (x ^^^ b) := by
  induction d with
  | zero =>
    intro x b h
    have : b = 0 := by omega
    subst this
    simp [turnN, stepN]
  | succ d ih =>
    intro x b h
    have hb : b / 2 < 2 ^ d := by rw [Nat.pow_succ] at h; omega
    simp only [turnN, stepN]
    rw [ih _ _ hb]
    congr 1
    unfold stepR
    rw [half_xor, Nat.xor_comm b x]
    split
    · rw [Nat.xor_assoc, Nat.xor_comm 3988292384, ← Nat.xor_assoc]
    · rfl
theorem half_i (n : Nat) : ((n : Int) / 2) = ((n / 2 : Nat) : Int) := by omega
theorem poly_i (n : Nat) (h : n < 4294967296) : Go.bits .xor .u32 ((n : Int) / 2) 3988292384 = (((n / 2) ^^^ 3988292384 : Nat) : Int) := by
  rw [half_i]
  exact xor_u32 (b := 3988292384) (by omega) (by omega)
theorem bt_nat (a : ByteArray) (i : Nat) (h : i < a.size) : bt a (i : Int) = ((a.data.toList[i]'(by simpa using h)).toNat : Int) := by
  have h1 := bt_at a (i : Int) (by simpa using h)
  rw [← h1]
  rfl
theorem spec_l1 (a : ByteArray) (i : Int) (d : Nat) : ∀ (k r : Nat), d ≤ 8 → r < 4294967296 → spec_l01Crc.l1 (k + (d + 1)) a (r : Int) i (8 - (d : Int)) = spec_l01Crc.l0 k a ((stepN d r : Nat) : Int) (wrap64 (i + 1)) := by
  induction d with
  | zero =>
    intro k r _ _
    show spec_l01Crc.l1 (k + 1) a (r : Int) i (8 - ((0 : Nat) : Int)) = _
    simp only [spec_l01Crc.l1]
    rw [if_neg (by omega)]
    rfl
  | succ d ih =>
    intro k r hd hr
    show spec_l01Crc.l1 ((k + (d + 1)) + 1) a (r : Int) i (8 - ((d + 1 : Nat) : Int)) = _
    simp only [spec_l01Crc.l1]
    have hj : wrap64 (8 - ((d + 1 : Nat) : Int) + 1) = 8 - (d : Int) := by unfold wrap64; omega
    rw [if_pos (by omega), and_one_u32 hr, hj]
    simp only [stepN]
    unfold stepR
    by_cases h : r % 2 = 1
    · rw [if_pos (by omega), if_pos h, poly_i r hr]
      exact ih k _ (by omega) (xor_lt (by omega) (by omega))
    · rw [if_neg (by omega), if_neg h, half_i]
      exact ih k _ (by omega) (by omega)
theorem spec_l0 (a : ByteArray) (ha : a.size ≤ 1048576) (m : Nat) : ∀ (k r i : Nat), i + m = a.size → r < 4294967296 → spec_l01Crc.l0 (k + (10 * m + 1)) a (r : Int) (i : Int) = some (wrap64 (Go.bits .xor .u32 ((crcL r (a.data.toList.drop i) : Nat) : Int) 4294967295)) := by
  induction m with
  | zero =>
    intro k r i hi hr
    show spec_l01Crc.l0 (k + 1) a (r : Int) (i : Int) = _
    simp only [spec_l01Crc.l0]
    rw [if_neg (by omega), List.drop_of_length_le (by simp; omega)]
    rfl
  | succ m ih =>
    intro k r i hi hr
    have hlt : i < a.data.toList.length := by simp; omega
    have e : k + (10 * (m + 1) + 1) = ((k + (10 * m + 1)) + (8 + 1)) + 1 := by omega
    rw [e]
    simp only [spec_l01Crc.l0]
    rw [if_pos (by omega), if_pos (by omega), bt_nat a i (by omega)]
    have hb := (a.data.toList[i]).toNat_lt
    have e2 : ((a.data.toList[i].toNat : Int)) % 4294967296 = ((a.data.toList[i].toNat : Nat) : Int) := by omega
    rw [e2, xor_u32 hr (by omega)]
    have h1 := spec_l1 a (i : Int) 8 (k + (10 * m + 1)) (r ^^^ a.data.toList[i].toNat) (by omega) (xor_lt hr (by omega))
    have e3 : (8 - ((8 : Nat) : Int)) = 0 := by omega
    rw [e3] at h1
    rw [h1]
    have e4 : wrap64 ((i : Int) + 1) = ((i + 1 : Nat) : Int) := by unfold wrap64; omega
    rw [e4]
    have h2 := ih k (crcB r a.data.toList[i].toNat) (i + 1) (by omega) (crcB_lt hr (by omega))
    rw [show stepN 8 (r ^^^ a.data.toList[i].toNat) = crcB r a.data.toList[i].toNat from rfl, h2]
    rw [List.drop_eq_getElem_cons hlt]
    rfl
theorem impl_l1 (a : ByteArray) (n i : Int) (d : Nat) : ∀ (k x b : Nat), d ≤ 8 → x < 4294967296 → b < 256 → impl_crcOn.l1 (k + (d + 1)) (x : Int) a (b : Int) n i (8 - (d : Int)) = impl_crcOn.l0 k ((turnN d x b : Nat) : Int) a n (wrap64 (i + 1)) := by
  induction d with
  | zero =>
    intro k x b _ _ _
    show impl_crcOn.l1 (k + 1) (x : Int) a (b : Int) n i (8 - ((0 : Nat) : Int)) = _
    simp only [impl_crcOn.l1]
    rw [if_neg (by omega)]
    rfl
  | succ d ih =>
    intro k x b hd hx hb
    show impl_crcOn.l1 ((k + (d + 1)) + 1) (x : Int) a (b : Int) n i (8 - ((d + 1 : Nat) : Int)) = _
    simp only [impl_crcOn.l1]
    have hj : wrap64 (8 - ((d + 1 : Nat) : Int) + 1) = 8 - (d : Int) := by unfold wrap64; omega
    have e2 : ((b : Int)) % 4294967296 = (b : Int) := by omega
    rw [if_pos (by omega), e2, xor_u32 (by omega) hx, and_one_u32 (xor_lt (by omega) hx), hj, half_i b]
    simp only [turnN]
    by_cases h : (b ^^^ x) % 2 = 1
    · rw [if_pos (by omega), if_pos h, poly_i x hx]
      exact ih k _ _ (by omega) (xor_lt (by omega) (by omega)) (by omega)
    · rw [if_neg (by omega), if_neg h, half_i]
      exact ih k _ _ (by omega) (by omega) (by omega)
theorem impl_l0 (a : ByteArray) (ha : a.size ≤ 1048576) (m : Nat) : ∀ (k r i : Nat), i + m = a.size → r < 4294967296 → impl_crcOn.l0 (k + (10 * m + 1)) (r : Int) a (a.size : Int) (i : Int) = some ((crcL r (a.data.toList.drop i) : Nat) : Int) := by
  induction m with
  | zero =>
    intro k r i hi hr
    show impl_crcOn.l0 (k + 1) (r : Int) a (a.size : Int) (i : Int) = _
    simp only [impl_crcOn.l0]
    rw [if_neg (by omega), List.drop_of_length_le (by simp; omega)]
    rfl
  | succ m ih =>
    intro k r i hi hr
    have hlt : i < a.data.toList.length := by simp; omega
    have e : k + (10 * (m + 1) + 1) = ((k + (10 * m + 1)) + (8 + 1)) + 1 := by omega
    rw [e]
    simp only [impl_crcOn.l0]
    rw [if_pos (by omega), if_pos (by omega), if_pos (by omega), bt_nat a i (by omega)]
    have hb := (a.data.toList[i]).toNat_lt
    have h1 := impl_l1 a (a.size : Int) (i : Int) 8 (k + (10 * m + 1)) r a.data.toList[i].toNat (by omega) hr (by omega)
    have e3 : (8 - ((8 : Nat) : Int)) = 0 := by omega
    rw [e3] at h1
    rw [h1, turnN_eq 8 _ _ (by omega)]
    have e4 : wrap64 ((i : Int) + 1) = ((i + 1 : Nat) : Int) := by unfold wrap64; omega
    rw [e4]
    have h2 := ih k (crcB r a.data.toList[i].toNat) (i + 1) (by omega) (crcB_lt hr (by omega))
    rw [show stepN 8 (r ^^^ a.data.toList[i].toNat) = crcB r a.data.toList[i].toNat from rfl, h2]
    rw [List.drop_eq_getElem_cons hlt]
    rfl
/-- The checksum of a text, going on with another one. -/
def crcV (c : Nat) (a : ByteArray) : Nat := crcL (c ^^^ 4294967295) a.data.toList ^^^ 4294967295
theorem crcV_lt {c : Nat} (h : c < 4294967296) (a : ByteArray) : crcV c a < 4294967296 := xor_lt (crcL_lt _ (xor_lt h (by omega))) (by omega)
theorem spec_crc (a : ByteArray) (ha : a.size ≤ 1048576) (c k : Nat) (hc : c < 4294967296) (hk : 10 * a.size + 1 ≤ k) : spec_l01Crc.f k (c : Int) a = some ((crcV c a : Nat) : Int) := by
  unfold spec_l01Crc.f
  obtain ⟨j, rfl⟩ : ∃ j, k = j + (10 * a.size + 1) := ⟨k - (10 * a.size + 1), by omega⟩
  have e : (c : Int) % 4294967296 = (c : Int) := by omega
  have h0 := spec_l0 a ha a.size j (c ^^^ 4294967295) 0 (by omega) (xor_lt hc (by omega))
  have e1 : Go.bits .xor .u32 (c : Int) 4294967295 = ((c ^^^ 4294967295 : Nat) : Int) := xor_u32 (b := 4294967295) hc (by omega)
  rw [e, e1]
  rw [show ((0 : Nat) : Int) = 0 from rfl] at h0
  rw [h0]
  have hl := crcL_lt (a.data.toList.drop 0) (xor_lt hc (show 4294967295 < 4294967296 by omega))
  have e2 : Go.bits .xor .u32 ((crcL (c ^^^ 4294967295) (a.data.toList.drop 0) : Nat) : Int) 4294967295 = ((crcL (c ^^^ 4294967295) (a.data.toList.drop 0) ^^^ 4294967295 : Nat) : Int) := xor_u32 (b := 4294967295) hl (by omega)
  rw [e2]
  have h3 := crcV_lt hc a
  unfold crcV at h3 ⊢
  rw [List.drop_zero]
  congr 1
  unfold wrap64
  omega
theorem impl_crcOn_f (a : ByteArray) (ha : a.size ≤ 1048576) (r k : Nat) (hr : r < 4294967296) (hk : 10 * a.size + 1 ≤ k) : impl_crcOn.f k (r : Int) a = some ((crcL r a.data.toList : Nat) : Int) := by
  unfold impl_crcOn.f
  obtain ⟨j, rfl⟩ : ∃ j, k = j + (10 * a.size + 1) := ⟨k - (10 * a.size + 1), by omega⟩
  have h0 := impl_l0 a ha a.size j r 0 (by omega) hr
  rw [show ((0 : Nat) : Int) = 0 from rfl] at h0
  rw [h0, List.drop_zero]
theorem not_u32 {r : Nat} (hr : r < 4294967296) : Go.bits .xor .u32 4294967295 (r : Int) = ((r ^^^ 4294967295 : Nat) : Int) := by
  have h : Go.bits .xor .u32 ((4294967295 : Nat) : Int) (r : Int) = ((4294967295 ^^^ r : Nat) : Int) := xor_u32 (by omega) hr
  rw [Nat.xor_comm] at h
  exact h
end Go.Proofs.Ytnofenbhioepbaa.QFnSeal
