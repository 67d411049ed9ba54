/- Plain: what PutNum puts, by the program and by the reference. No condition beyond the number's kind. -/
import Derived.Test.YtnofenbhioepbaaQFnNumsx
import Derived.Test.YtnofenbhioepbaaBits
namespace Go.Proofs.Ytnofenbhioepbaa.QFnNums
open Go Go.RowKit Go.Proofs.Ytnofenbhioepbaa.Bits Go.Proofs.YtnofenbhioepbaaW.PrintWords

/-- The numbers of the bytes that stand for a number, at most d of them. -/
def encF : Nat → Int → List Int
  | 0, _ => []
  | d + 1, x => if x ≥ 128 then (x % 128 + 128) :: encF d (x / 128) else [x]
theorem encF_length (d : Nat) : ∀ x, (encF d x).length ≤ d := by
  induction d with
  | zero => intro x; simp [encF]
  | succ d ih =>
    intro x
    simp only [encF]
    split
    · have := ih (x / 128)
      simp only [List.length_cons]
      omega
    · simp
theorem encF_pos (d : Nat) (hd : 0 < d) (x : Int) : 0 < (encF d x).length := by
  obtain ⟨d, rfl⟩ : ∃ m, d = m + 1 := ⟨d - 1, by omega⟩
  simp only [encF]
  split <;> simp
theorem put_byte (x : Int) (h0 : 0 ≤ x) : Go.bits .or .u8 (x % 256) 128 = x % 128 + 128 := by
  obtain ⟨a, rfl⟩ := Int.eq_ofNat_of_zero_le h0
  have h := or_high_u8 (a := a % 256) (by omega)
  have e : (((a % 256 : Nat) : Nat) : Int) = (a : Int) % 256 := by omega
  rw [e] at h
  rw [h]
  omega
theorem put_l0 (d : Nat) : ∀ (k : Nat) (x : Int) (xs : List Int), 0 ≤ x → x < 128 ^ d → 0 < d → xs.length + d < 140737488355328 → d < k → impl_PutNum.l0 k x xs = some (strOfNums (xs ++ encF d x)) := by
  induction d with
  | zero => intro k x xs _ _ h; omega
  | succ d ih =>
    intro k x xs h0 hx _ hl hk
    obtain ⟨k, rfl⟩ : ∃ m, k = m + 1 := ⟨k - 1, by omega⟩
    simp only [impl_PutNum.l0, encF]
    by_cases h : x ≥ 128
    · have hd : 0 < d := by
        rcases Nat.eq_zero_or_pos d with e | e
        · subst e; simp at hx; omega
        · exact e
      have hx' : x / 128 < 128 ^ d := by
        rw [Int.pow_succ] at hx
        omega
      rw [if_pos h, if_pos (by omega), if_pos h, put_byte x h0]
      rw [ih k (x / 128) _ (by omega) hx' hd (by simp; omega) (by omega)]
      simp
    · rw [if_neg h, if_pos (by omega), if_neg h]
      have : x % 256 = x := by omega
      rw [this]
theorem sput_l0 (k : Nat) : ∀ (x : Int) (xs : List Int), 0 ≤ x → x < 18446744073709551616 → spec_PutNum.l0 k x xs = impl_PutNum.l0 k x xs := by
  induction k with
  | zero => intro x xs _ _; rfl
  | succ k ih =>
    intro x xs h0 h1
    simp only [spec_PutNum.l0, impl_PutNum.l0]
    by_cases h : x ≥ 128
    · have e1 : IntKind.u64.wrap (Int.tdiv x 128) = x / 128 := by
        rw [wrap_u64, Int.tdiv_eq_ediv_of_nonneg h0]
        omega
      have e2 : (IntKind.u64.wrap (Int.tmod x 128 + 128)) % 256 = x % 128 + 128 := by
        rw [wrap_u64, Int.tmod_eq_emod_of_nonneg h0]
        omega
      rw [if_pos h, if_pos h, e1, e2, put_byte x h0, ih (x / 128) _ (by omega) (by omega)]
    · rw [if_neg h, if_neg h]
/-- A number, its sign folded in. -/
def foldN (n : Int) : Int := if n < 0 then -2 * n - 1 else 2 * n
theorem foldN_range {n : Int} (h0 : -9223372036854775808 ≤ n) (h1 : n ≤ 9223372036854775807) : 0 ≤ foldN n ∧ foldN n < 18446744073709551616 := by
  unfold foldN
  split <;> omega
theorem fold_impl {n : Int} (h0 : -9223372036854775808 ≤ n) (h1 : n ≤ 9223372036854775807) :
    Go.bits .xor .u64 (IntKind.u64.wrap ((IntKind.u64.wrap n) * 2)) (IntKind.u64.wrap (n / 9223372036854775808)) = foldN n := by
  unfold foldN
  simp only [wrap_u64]
  by_cases h : n < 0
  · rw [if_pos h]
    have e1 : n / 9223372036854775808 % 18446744073709551616 = 18446744073709551615 := by omega
    have e2 : n % 18446744073709551616 * 2 % 18446744073709551616 = 2 * n + 18446744073709551616 := by omega
    rw [e1, e2]
    obtain ⟨a, ha⟩ := Int.eq_ofNat_of_zero_le (show 0 ≤ 2 * n + 18446744073709551616 by omega)
    rw [ha, xor_ones_u64 (by omega)]
    omega
  · rw [if_neg h]
    have e1 : n / 9223372036854775808 % 18446744073709551616 = 0 := by omega
    have e2 : n % 18446744073709551616 * 2 % 18446744073709551616 = 2 * n := by omega
    rw [e1, e2]
    obtain ⟨a, ha⟩ := Int.eq_ofNat_of_zero_le (show 0 ≤ 2 * n by omega)
    rw [ha, xor_zero_u64 (by omega)]
theorem fold_spec {n : Int} (h0 : -9223372036854775808 ≤ n) (h1 : n ≤ 9223372036854775807) : spec_l01Fold.f n = some (foldN n) := by
  unfold spec_l01Fold.f foldN wrap64
  simp only [wrap_u64]
  split
  · congr 1; omega
  · congr 1; omega
theorem of_wf {n : Int} (h : (Lit.int .i64 n).wf = true) : -9223372036854775808 ≤ n ∧ n ≤ 9223372036854775807 := by
  simp [Lit.wf, IntKind.min, IntKind.max, IntKind.signed, IntKind.bits] at h
  omega
/-- What PutNum puts. -/
def putNum (n : Int) : ByteArray := strOfNums (encF 10 (foldN n))
theorem size_nums (xs : List Int) : (strOfNums xs).size = xs.length := by simp [strOfNums, ByteArray.size]
theorem putNum_size (n : Int) : (putNum n).size = (encF 10 (foldN n)).length := size_nums _
theorem putNum_le (n : Int) : (putNum n).size ≤ 10 := by rw [putNum_size]; exact encF_length 10 _
theorem put_impl {n : Int} (h0 : -9223372036854775808 ≤ n) (h1 : n ≤ 9223372036854775807) {k : Nat} (hk : 10 < k) : impl_PutNum.f k n = some (putNum n) := by
  obtain ⟨a, b⟩ := foldN_range h0 h1
  unfold impl_PutNum.f putNum
  rw [fold_impl h0 h1, put_l0 10 k _ [] a (by simp; omega) (by omega) (by simp) hk]
  simp
theorem put_spec {n : Int} (h0 : -9223372036854775808 ≤ n) (h1 : n ≤ 9223372036854775807) {k : Nat} (hk : 10 < k) : spec_PutNum.f k n = some (putNum n) := by
  obtain ⟨a, b⟩ := foldN_range h0 h1
  unfold spec_PutNum.f
  rw [fold_spec h0 h1, Option.bind_some, sput_l0 k _ _ a b]
  rw [← put_impl h0 h1 hk]
  unfold impl_PutNum.f
  rw [fold_impl h0 h1]
end Go.Proofs.Ytnofenbhioepbaa.QFnNums
