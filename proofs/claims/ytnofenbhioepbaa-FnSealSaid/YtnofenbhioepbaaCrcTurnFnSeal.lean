/- Plain: of two texts of which one byte alone is unlike the checksums are unlike; a checksum goes on from text to text. -/
import Derived.Test.YtnofenbhioepbaaSealFnSeal
set_option linter.unusedSimpArgs false
set_option linter.unusedVariables false
namespace Go.Proofs.Ytnofenbhioepbaa.QFnSeal
open Go Go.RowKit Go.Proofs.Ytnofenbhioepbaa.Bits Go.Proofs.Ytnofenbhioepbaa.Bytes Go.Proofs.YtnofenbhioepbaaW.PrintWords

theorem top_bit {r : Nat} (h : r < 4294967296) : (r / 2).testBit 31 = false := Nat.testBit_lt_two_pow (by omega)
theorem stepR_inj {r s : Nat} (hr : r < 4294967296) (hs : s < 4294967296) (h : stepR r = stepR s) : r = s := by
  unfold stepR at h
  have tP : Nat.testBit 3988292384 31 = true := by decide
  by_cases h1 : r % 2 = 1 <;> by_cases h2 : s % 2 = 1
  · rw [if_pos h1, if_pos h2] at h
    have h3 := congrArg (· ^^^ 3988292384) h
    simp only [Nat.xor_assoc, Nat.xor_self, Nat.xor_zero] at h3
    omega
  · rw [if_pos h1, if_neg h2] at h
    have h3 := congrArg (fun x => Nat.testBit x 31) h
    simp only [Nat.testBit_xor, top_bit hr, top_bit hs, tP] at h3
    exact absurd h3 (by decide)
  · rw [if_neg h1, if_pos h2] at h
    have h3 := congrArg (fun x => Nat.testBit x 31) h
    simp only [Nat.testBit_xor, top_bit hr, top_bit hs, tP] at h3
    exact absurd h3 (by decide)
  · rw [if_neg h1, if_neg h2] at h
    omega
theorem stepN_inj (d : Nat) : ∀ {r s : Nat}, r < 4294967296 → s < 4294967296 → stepN d r = stepN d s → r = s := by
  induction d with
  | zero => intro r s _ _ h; exact h
  | succ d ih => intro r s hr hs h; exact stepR_inj hr hs (ih (stepR_lt hr) (stepR_lt hs) h)
theorem xor_right_inj {a b c : Nat} (h : a ^^^ c = b ^^^ c) : a = b := by
  have h3 := congrArg (· ^^^ c) h
  simp only [Nat.xor_assoc, Nat.xor_self, Nat.xor_zero] at h3
  exact h3
theorem crcB_inj {r s b : Nat} (hr : r < 4294967296) (hs : s < 4294967296) (hb : b < 256) (h : crcB r b = crcB s b) : r = s :=
  xor_right_inj (stepN_inj 8 (xor_lt hr (by omega)) (xor_lt hs (by omega)) h)
theorem crcB_inj2 {r b c : Nat} (hr : r < 4294967296) (hb : b < 256) (hc : c < 256) (h : crcB r b = crcB r c) : b = c := by
  have h2 := stepN_inj 8 (xor_lt hr (by omega)) (xor_lt hr (by omega)) h
  rw [Nat.xor_comm r b, Nat.xor_comm r c] at h2
  exact xor_right_inj h2
theorem crcL_inj (l : List UInt8) : ∀ {r s : Nat}, r < 4294967296 → s < 4294967296 → crcL r l = crcL s l → r = s := by
  induction l with
  | nil => intro r s _ _ h; exact h
  | cons b l ih =>
    intro r s hr hs h
    have hb : b.toNat < 256 := b.toNat_lt
    exact crcB_inj hr hs hb (ih (crcB_lt hr hb) (crcB_lt hs hb) h)
theorem crcL_append (r : Nat) (l m : List UInt8) : crcL r (l ++ m) = crcL (crcL r l) m := by simp [crcL]
theorem crcL_turn {r : Nat} (hr : r < 4294967296) (l m : List UInt8) {x y : UInt8} (h : x ≠ y) : crcL r (l ++ x :: m) ≠ crcL r (l ++ y :: m) := by
  intro e
  rw [crcL_append, crcL_append] at e
  have hl := crcL_lt l hr
  have hx : x.toNat < 256 := x.toNat_lt
  have hy : y.toNat < 256 := y.toNat_lt
  have e2 : crcL (crcB (crcL r l) x.toNat) m = crcL (crcB (crcL r l) y.toNat) m := e
  have e3 := crcL_inj m (crcB_lt hl hx) (crcB_lt hl hy) e2
  have e4 := crcB_inj2 hl hx hy e3
  exact h (UInt8.toNat_inj.mp e4)
theorem crcV_turn {a b : ByteArray} (l m : List UInt8) {x y : UInt8} (h : x ≠ y) (ha : a.toList = l ++ x :: m) (hb : b.toList = l ++ y :: m) : crcV 0 a ≠ crcV 0 b := by
  intro e
  unfold crcV at e
  rw [← tl, ← tl, ha, hb] at e
  exact crcL_turn (r := 0 ^^^ 4294967295) (by decide) l m h (xor_right_inj e)
theorem crcV_more (a b : ByteArray) : crcV (crcV 0 a) b = crcV 0 (a ++ b) := by
  unfold crcV
  rw [← tl, ← tl, ← tl, tl_append, crcL_append, Nat.xor_assoc, Nat.xor_self, Nat.xor_zero]
theorem four_list (c : Nat) : (four c).toList = [UInt8.ofNat (c % 256), UInt8.ofNat (c / 256 % 256), UInt8.ofNat (c / 65536 % 256), UInt8.ofNat (c / 16777216 % 256)] := by
  unfold four
  rw [tl]
  show List.map _ _ = _
  simp only [List.map_cons, List.map_nil]
  have e1 : ((c : Int) % 256).toNat = c % 256 := by omega
  have e2 : ((c : Int) / 256 % 256).toNat = c / 256 % 256 := by omega
  have e3 : ((c : Int) / 65536 % 256).toNat = c / 65536 % 256 := by omega
  have e4 : ((c : Int) / 16777216 % 256).toNat = c / 16777216 % 256 := by omega
  rw [e1, e2, e3, e4]
theorem ofNat_inj {a b : Nat} (ha : a < 256) (hb : b < 256) (h : UInt8.ofNat a = UInt8.ofNat b) : a = b := by
  have h2 := congrArg UInt8.toNat h
  rwa [UInt8.toNat_ofNat_of_lt' ha, UInt8.toNat_ofNat_of_lt' hb] at h2
theorem four_inj {c d : Nat} (hc : c < 4294967296) (hd : d < 4294967296) (h : (four c).toList = (four d).toList) : c = d := by
  rw [four_list, four_list] at h
  simp only [List.cons.injEq, and_true] at h
  obtain ⟨h1, h2, h3, h4⟩ := h
  have h1 := ofNat_inj (Nat.mod_lt _ (by omega)) (Nat.mod_lt _ (by omega)) h1
  have h2 := ofNat_inj (Nat.mod_lt _ (by omega)) (Nat.mod_lt _ (by omega)) h2
  have h3 := ofNat_inj (Nat.mod_lt _ (by omega)) (Nat.mod_lt _ (by omega)) h3
  have h4 := ofNat_inj (Nat.mod_lt _ (by omega)) (Nat.mod_lt _ (by omega)) h4
  omega
end Go.Proofs.Ytnofenbhioepbaa.QFnSeal
