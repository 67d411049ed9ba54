/- Plain: what GetNum and GetText get back of what PutNum and PutText put. -/
import Derived.Test.YtnofenbhioepbaaNumFnNums
import Derived.Test.YtnofenbhioepbaaLongFnNums
import Derived.Test.YtnofenbhioepbaaBytes
import Derived.Laws.BitsLemmas
set_option linter.unusedSimpArgs false
set_option linter.unusedVariables false
namespace Go.Proofs.Ytnofenbhioepbaa.QFnNums
open Go Go.RowKit Go.Proofs.Ytnofenbhioepbaa.Bits Go.Proofs.Ytnofenbhioepbaa.Bytes Go.Proofs.YtnofenbhioepbaaW.PrintWords Go.Proofs.YtnofenbhioepbaaW.PrintMore

/-- From place p on, text a holds the bytes l. -/
def hasAt (a : ByteArray) (p : Nat) (l : List Int) : Prop := p + l.length ≤ a.size ∧ ∀ j, j < l.length → bt a ((p + j : Nat) : Int) = l.getD j 0
theorem hasAt_cons {a : ByteArray} {p : Nat} {x : Int} {l : List Int} (h : hasAt a p (x :: l)) : bt a (p : Int) = x ∧ hasAt a (p + 1) l := by
  obtain ⟨h1, h2⟩ := h
  simp only [List.length_cons] at h1 h2
  refine ⟨by have := h2 0 (by omega); simpa using this, by omega, fun j hj => ?_⟩
  have := h2 (j + 1) (by omega)
  rw [show p + (j + 1) = p + 1 + j by omega] at this
  simpa using this
theorem xor_i64_zero {x : Int} (h0 : 0 ≤ x) (h1 : x < 9223372036854775808) : Go.bits .xor .i64 x 0 = x := by
  obtain ⟨a, rfl⟩ := Int.eq_ofNat_of_zero_le h0
  have e : Go.bits .xor .i64 (a : Int) 0 = IntKind.i64.wrap ((BitVec.ofInt 64 (a : Int) ^^^ BitVec.ofInt 64 0).toNat : Int) := rfl
  rw [e]
  have e2 : (BitVec.ofInt 64 (a : Int) ^^^ BitVec.ofInt 64 0).toNat = a := by
    rw [BitVec.toNat_xor, BitVec.ofInt_natCast, BitVec.toNat_ofNat]
    simp
    omega
  rw [e2, IntKind.wrap_i64]
  omega
theorem xor_i64_ones {x : Int} (h0 : 0 ≤ x) (h1 : x < 9223372036854775808) : Go.bits .xor .i64 x (-1) = -x - 1 := by
  obtain ⟨a, rfl⟩ := Int.eq_ofNat_of_zero_le h0
  have e : Go.bits .xor .i64 (a : Int) (-1) = IntKind.i64.wrap ((BitVec.ofInt 64 (a : Int) ^^^ BitVec.ofInt 64 (-1)).toNat : Int) := rfl
  rw [e]
  have e3 : BitVec.ofInt 64 (-1) = BitVec.allOnes 64 := by decide
  have e2 : (BitVec.ofInt 64 (a : Int) ^^^ BitVec.ofInt 64 (-1)).toNat = 18446744073709551615 - a := by
    rw [e3, BitVec.toNat_xor, BitVec.ofInt_natCast, BitVec.toNat_ofNat, BitVec.toNat_allOnes, Nat.mod_eq_of_lt (by omega)]
    exact nat_xor_ones 64 a (by omega)
  rw [e2, IntKind.wrap_i64]
  omega
theorem and_one_u64 {x : Int} (h0 : 0 ≤ x) (h1 : x < 18446744073709551616) : Go.bits .and .u64 x 1 = x % 2 := by
  obtain ⟨a, rfl⟩ := Int.eq_ofNat_of_zero_le h0
  have h : Go.bits .and .u64 (a : Int) ((1 : Nat) : Int) = ((a &&& 1 : Nat) : Int) :=
    (bits_all .u64 keep_u64 a 1 (by simp only [IntKind.bits]; omega) (by simp only [IntKind.bits]; omega)).1
  rw [Nat.and_one_is_mod] at h
  have : ((1 : Nat) : Int) = 1 := rfl
  rw [this] at h
  rw [h]
  omega
/-- A low part and a high one, joined. -/
theorem or_join_u64 (i : Nat) {a b : Nat} (ha : a < 2 ^ i) (h : a + b * 2 ^ i < 18446744073709551616) : Go.bits .or .u64 (a : Int) ((b * 2 ^ i : Nat) : Int) = ((a + b * 2 ^ i : Nat) : Int) := by
  have h1 : Go.bits .or .u64 (a : Int) ((b * 2 ^ i : Nat) : Int) = ((a ||| (b * 2 ^ i) : Nat) : Int) :=
    (bits_all .u64 keep_u64 a (b * 2 ^ i) (by simp only [IntKind.bits]; omega) (by simp only [IntKind.bits]; omega)).2.1
  rw [h1, Nat.or_comm, Nat.mul_comm, ← Nat.two_pow_add_eq_or_of_lt ha]
  congr 1
  omega
/-- What a folded number stands for. -/
def unfold_ (u : Int) : Int := if u % 2 = 1 then -(u / 2) - 1 else u / 2
theorem unfold_fold {n : Int} : unfold_ (foldN n) = n := by
  unfold unfold_ foldN
  split <;> split <;> omega
theorem result_is {u : Int} (h0 : 0 ≤ u) (h1 : u < 18446744073709551616) : Go.bits .xor .i64 (wrap64 (u / 2)) (wrap64 (-(wrap64 (Go.bits .and .u64 u 1)))) = unfold_ u := by
  rw [and_one_u64 h0 h1]
  have e1 : wrap64 (u / 2) = u / 2 := by unfold wrap64; omega
  rw [e1]
  unfold unfold_
  by_cases h : u % 2 = 1
  · rw [if_pos h, h]
    have e2 : wrap64 (-(wrap64 1)) = -1 := by unfold wrap64; omega
    rw [e2, xor_i64_ones (by omega) (by omega)]
  · have h2 : u % 2 = 0 := by omega
    rw [if_neg h, h2]
    have e2 : wrap64 (-(wrap64 0)) = 0 := by unfold wrap64; omega
    rw [e2, xor_i64_zero (by omega) (by omega)]
theorem byte_small {b : Int} (h0 : 0 ≤ b) (h1 : b < 256) : IntKind.u64.wrap (Int.tmod b 128) = b % 128 := by
  rw [wrap_u64, Int.tmod_eq_emod_of_nonneg h0]
  omega
theorem shl_is (i : Nat) (hi : i ≤ 9) {b : Nat} (h : b * 128 ^ i < 18446744073709551616) : shl .u64 (b : Int) (7 * (i : Int)) = ((b * 2 ^ (7 * i) : Nat) : Int) := by
  unfold shl
  have e : (7 * (i : Int)).toNat = 7 * i := by omega
  have e2 : min (7 * i) IntKind.u64.bits = 7 * i := by simp only [IntKind.bits]; omega
  rw [e, e2, wrap_u64]
  have e3 : (128 : Nat) ^ i = 2 ^ (7 * i) := by rw [Nat.pow_mul]
  rw [e3] at h
  have e4 : (b : Int) * 2 ^ (7 * i) = ((b * 2 ^ (7 * i) : Nat) : Int) := by simp
  rw [e4]
  omega
/-- One byte is taken: what is known then. -/
theorem join_is (i : Nat) (hi : i ≤ 9) {acc b : Nat} (ha : acc < 128 ^ i) (hb : b < 256) (h : acc + (b % 128) * 128 ^ i < 18446744073709551616) :
    Go.bits .or .u64 (acc : Int) (shl .u64 (IntKind.u64.wrap (Int.tmod (b : Int) 128)) (wrap64 (7 * (i : Int)))) = ((acc + (b % 128) * 128 ^ i : Nat) : Int) := by
  have e1 : wrap64 (7 * (i : Int)) = 7 * (i : Int) := by unfold wrap64; omega
  have e2 : ((b : Int)) % 128 = ((b % 128 : Nat) : Int) := by omega
  rw [byte_small (by omega) (by omega), e1, e2, shl_is i hi (by omega)]
  have e3 : (128 : Nat) ^ i = 2 ^ (7 * i) := by rw [Nat.pow_mul]
  rw [e3] at ha h ⊢
  exact or_join_u64 (7 * i) ha h
theorem cast_lt {n : Nat} (h : n < 18446744073709551616) : (n : Int) < 18446744073709551616 := by omega
/-- One byte is taken. -/
theorem get_step (a : ByteArray) (ha : a.size ≤ 20000) (p i k : Nat) (acc b v : Int) (hi : i ≤ 9) (hsz : p + i < a.size) (hb : bt a ((p + i : Nat) : Int) = b) (h9 : i = 9 → b ≤ 1) (h00 : b = 0 → i = 0)
    (hj : Go.bits .or .u64 acc (shl .u64 (IntKind.u64.wrap (Int.tmod b 128)) (wrap64 (7 * (i : Int)))) = v) :
    impl_GetNum.l0 (k + 3) a (p : Int) acc (i : Int) = if b < 128 then some (Go.bits .xor .i64 (wrap64 (v / 2)) (wrap64 (-(wrap64 (Go.bits .and .u64 v 1)))), ((p + i + 1 : Nat) : Int), 0) else impl_GetNum.l0 k a (p : Int) v ((i + 1 : Nat) : Int) := by
  have hpi : wrap64 ((p : Int) + (i : Int)) = ((p + i : Nat) : Int) := by unfold wrap64; omega
  have e1 : wrap64 (((p + i : Nat) : Int) + 1) = ((p + i + 1 : Nat) : Int) := by unfold wrap64; omega
  have e2 : wrap64 ((i : Int) + 1) = ((i + 1 : Nat) : Int) := by unfold wrap64; omega
  have e7 : 0 ≤ wrap64 (7 * (i : Int)) := by
    have e8 : wrap64 (7 * (i : Int)) = 7 * (i : Int) := by unfold wrap64; omega
    rw [e8]
    omega
  have q1 : (i : Int) < 10 := by omega
  have q2 : ¬ (((p + i : Nat) : Int) ≥ (a.size : Int)) := by omega
  have q3 : ¬ ((p : Int) > (a.size : Int)) := by omega
  have q4 : 0 ≤ ((p + i : Nat) : Int) := by omega
  have q5 : ((p + i : Nat) : Int) < (a.size : Int) := by omega
  simp only [impl_GetNum.l0]
  rw [if_pos q1, hpi, if_neg q2, decide_eq_false q3]
  simp only [impl_GetNum.j1]
  rw [if_neg (by decide), hpi, if_pos q4, if_pos q5, hb]
  have key : ∀ t : Bool, t = false → impl_GetNum.j2 (k + 1) a (p : Int) acc (i : Int) b (i : Int) t = if b < 128 then some (Go.bits .xor .i64 (wrap64 (v / 2)) (wrap64 (-(wrap64 (Go.bits .and .u64 v 1)))), ((p + i + 1 : Nat) : Int), 0) else impl_GetNum.l0 k a (p : Int) v ((i + 1 : Nat) : Int) := by
    intro t ht
    subst ht
    simp only [impl_GetNum.j2]
    rw [if_neg (by decide), if_pos e7, hj, hpi, e1, e2]
    by_cases hlt : b < 128
    · rw [if_pos hlt, if_pos hlt]
      by_cases hz : b = 0
      · have hi0 := h00 hz
        have q6 : ¬ (i : Int) > 0 := by omega
        rw [if_pos hz, if_neg q6]
      · rw [if_neg hz]
    · rw [if_neg hlt, if_neg hlt]
  by_cases hi9 : (i : Int) = 9
  · rw [if_pos hi9]
    exact key _ (decide_eq_false (by have := h9 (by omega); omega))
  · rw [if_neg hi9]
    exact key _ rfl
theorem rest_is (P acc rem : Nat) : acc + (rem % 128) * P + (rem / 128) * (P * 128) = acc + rem * P := by
  have h5 : rem * P = (rem % 128 + 128 * (rem / 128)) * P := by rw [Nat.mod_add_div]
  rw [h5, Nat.add_mul, Nat.add_assoc]
  congr 2
  rw [Nat.mul_comm 128 (rem / 128), Nat.mul_assoc, Nat.mul_comm 128 P]
theorem less_is (P acc b : Nat) (h : acc < P) (hb : b < 128) : acc + b * P < P * 128 := by
  have h6 : b * P ≤ 127 * P := Nat.mul_le_mul_right _ (by omega)
  omega
theorem div_is (P rem : Nat) (h : rem < P * 128) : rem / 128 < P := by omega
theorem nine_is (acc rem : Nat) (h : acc + rem * 128 ^ 9 < 18446744073709551616) : rem < 2 := by
  have e : (128 : Nat) ^ 9 = 9223372036854775808 := by simp
  rw [e] at h
  omega
theorem get_l0 (a : ByteArray) (ha : a.size ≤ 20000) (p : Nat) (d : Nat) : ∀ (i k acc rem : Nat), i + d = 10 → Aside0 (rem < 128 ^ d) → Aside0 (acc < 128 ^ i) → Aside0 (acc + rem * 128 ^ i < 18446744073709551616) → (0 < i → 0 < rem) → hasAt a (p + i) (encF d (rem : Int)) → 3 * d < k →
    ∃ x : Nat, Aside0 (x = acc + rem * 128 ^ i) ∧ impl_GetNum.l0 k a (p : Int) (acc : Int) (i : Int) = some (unfold_ (x : Int), ((p + i + (encF d (rem : Int)).length : Nat) : Int), 0) := by
  induction d with
  | zero =>
    intro i k acc rem hid hr hacc hx hpos hat hk
    have hr := hr.out
    rw [Nat.pow_zero] at hr
    have := hpos (by omega)
    omega
  | succ d ih =>
    intro i k acc rem hid hr hacc hx hpos hat hk
    obtain ⟨k, rfl⟩ : ∃ m, k = m + 3 := ⟨k - 3, by omega⟩
    have hi : i ≤ 9 := by omega
    have hsz := hat.1
    have hl : 0 < (encF (d + 1) (rem : Int)).length := encF_pos _ (by omega) _
    have hsz2 : p + i < a.size := by omega
    by_cases h : (rem : Int) ≥ 128
    · have e : encF (d + 1) (rem : Int) = ((rem : Int) % 128 + 128) :: encF d ((rem : Int) / 128) := by simp only [encF]; rw [if_pos h]
      have e3 : ((rem : Int) / 128) = ((rem / 128 : Nat) : Int) := by omega
      have e4 : ((rem : Int) % 128 + 128) = ((rem % 128 + 128 : Nat) : Int) := by omega
      rw [e, e3, e4] at hat ⊢
      obtain ⟨hb, hat2⟩ := hasAt_cons hat
      have h9 : i = 9 → (((rem % 128 + 128 : Nat) : Int)) ≤ 1 := by
        intro e9
        subst e9
        have := nine_is acc rem hx.out
        omega
      have hm : (rem % 128 + 128) % 128 = rem % 128 := by omega
      have hle : rem % 128 ≤ rem := Nat.mod_le _ _
      have hsum := Aside0.mk (Nat.lt_of_le_of_lt (Nat.add_le_add_left (Nat.mul_le_mul_right (128 ^ i) hle) acc) hx.out)
      have hj := Aside0.mk (join_is i hi (b := rem % 128 + 128) hacc.out (by omega) (by rw [hm]; exact hsum.out))
      rw [hm] at hj
      have hs := get_step a ha p i k (acc : Int) _ _ hi hsz2 hb h9 (by omega) hj.out
      rw [if_neg (by omega)] at hs
      have hacc2 := Aside0.mk (less_is (128 ^ i) acc (rem % 128) hacc.out (by omega))
      have hr2 := Aside0.mk (div_is (128 ^ d) rem (by have := hr.out; rw [Nat.pow_succ] at this; exact this))
      have hrest := Aside0.mk (rest_is (128 ^ i) acc rem)
      rw [← Nat.pow_succ] at hacc2 hrest
      obtain ⟨x, hx2, h7⟩ := ih (i + 1) k (acc + (rem % 128) * 128 ^ i) (rem / 128) (by omega) hr2 hacc2 ⟨by rw [hrest.out]; exact hx.out⟩ (fun _ => by omega) (by rw [show p + (i + 1) = p + i + 1 by omega]; exact hat2) (by omega)
      refine ⟨x, ⟨by rw [hx2.out, hrest.out]⟩, ?_⟩
      rw [hs, h7]
      simp only [List.length_cons]
      rw [show p + (i + 1) + (encF d ((rem / 128 : Nat) : Int)).length = p + i + ((encF d ((rem / 128 : Nat) : Int)).length + 1) by omega]
    · have e : encF (d + 1) (rem : Int) = [(rem : Int)] := by simp only [encF]; rw [if_neg h]
      rw [e] at hat ⊢
      obtain ⟨hb, _⟩ := hasAt_cons hat
      have h9 : i = 9 → ((rem : Int)) ≤ 1 := by
        intro e9
        subst e9
        have := nine_is acc rem hx.out
        omega
      have hm : rem % 128 = rem := by omega
      have hj := Aside0.mk (join_is i hi (b := rem) hacc.out (by omega) (by rw [hm]; exact hx.out))
      rw [hm] at hj
      have hs := get_step a ha p i k (acc : Int) _ _ hi hsz2 hb h9 (fun hz => by
        rcases Nat.eq_zero_or_pos i with h | h
        · exact h
        · have := hpos h
          omega) hj.out
      rw [if_pos (by omega)] at hs
      refine ⟨acc + rem * 128 ^ i, ⟨rfl⟩, ?_⟩
      rw [hs, result_is (Int.natCast_nonneg _) (cast_lt hx.out)]
      rfl
theorem getnum_put (a : ByteArray) (ha : a.size ≤ 20000) (p : Nat) {n : Int} (h0 : -9223372036854775808 ≤ n) (h1 : n ≤ 9223372036854775807) (hat : hasAt a p (encF 10 (foldN n))) {k : Nat} (hk : 30 < k) :
    impl_GetNum.f k a (p : Int) = some (n, ((p + (encF 10 (foldN n)).length : Nat) : Int), 0) := by
  obtain ⟨f0, f1⟩ := foldN_range h0 h1
  unfold impl_GetNum.f
  rw [long_one a (by omega), Option.bind_some, if_neg (by simp only [decide_eq_true_eq]; omega), if_neg (by omega)]
  obtain ⟨u, hu⟩ := Int.eq_ofNat_of_zero_le f0
  rw [hu] at hat
  obtain ⟨x, hx, h⟩ := get_l0 a ha p 10 0 k 0 u (by omega) ⟨Nat.lt_of_lt_of_le (show u < 18446744073709551616 by omega) (by simp)⟩ ⟨by simp⟩ ⟨by rw [Nat.pow_zero, Nat.mul_one, Nat.zero_add]; omega⟩ (fun h => by omega) hat (by omega)
  have hx := hx.out
  simp only [Nat.zero_add, Nat.add_zero, Nat.pow_zero, Nat.mul_one] at h hx
  subst hx
  rw [show ((0 : Nat) : Int) = 0 from rfl] at h
  rw [h, hu]
  congr 2
  have h2 := unfold_fold (n := n)
  rw [hu] at h2
  exact h2
/-- Of bytes that end too early nothing is got. -/
theorem get_short (a : ByteArray) (ha : a.size ≤ 20000) (p : Nat) (m : Nat) : ∀ (i k : Nat) (acc : Int), p + i + m = a.size → m + i < 10 → (∀ j, p + i ≤ j → j < a.size → 128 ≤ bt a (j : Int)) → 3 * m + 2 < k →
    impl_GetNum.l0 k a (p : Int) acc (i : Int) = some (0, 0, 4) := by
  induction m with
  | zero =>
    intro i k acc hs hmi hb hk
    obtain ⟨k, rfl⟩ : ∃ m, k = m + 2 := ⟨k - 2, by omega⟩
    have hpi : wrap64 ((p : Int) + (i : Int)) = ((p + i : Nat) : Int) := by unfold wrap64; omega
    simp only [impl_GetNum.l0]
    rw [if_pos (by omega), hpi, if_pos (by omega)]
    simp [impl_GetNum.j1]
  | succ m ih =>
    intro i k acc hs hmi hb hk
    obtain ⟨k, rfl⟩ : ∃ m, k = m + 3 := ⟨k - 3, by omega⟩
    have h1 := hb (p + i) (by omega) (by omega)
    rw [get_step a ha p i k acc _ _ (by omega) (by omega) rfl (fun h => by omega) (fun h => by omega) rfl, if_neg (by omega)]
    exact ih (i + 1) k _ (by omega) (by omega) (fun j h2 h3 => hb j (by omega) h3) (by omega)
theorem bt_list (a : ByteArray) (j : Nat) (h : j < a.toList.length) : bt a (j : Int) = ((a.toList[j]'h).toNat : Int) := by
  have hs : j < a.size := by rw [← tl_length]; exact h
  have h1 := bt_at a (j : Int) (by simpa using hs)
  rw [← h1]
  simp only [tl]
  rfl
theorem tl_nums (xs : List Int) : (strOfNums xs).toList = xs.map fun n => UInt8.ofNat n.toNat := by rw [tl]; rfl
theorem hasAt_of (a : ByteArray) (l : List Int) (r : List UInt8) (pre : List UInt8) (h : a.toList = pre ++ ((l.map fun n => UInt8.ofNat n.toNat) ++ r)) (hb : ∀ x ∈ l, 0 ≤ x ∧ x < 256) : hasAt a pre.length l := by
  have hs : a.size = pre.length + (l.length + r.length) := by rw [← tl_length, h]; simp
  refine ⟨by omega, fun j hj => ?_⟩
  have h1 : pre.length + j < a.toList.length := by rw [tl_length]; omega
  rw [bt_list a _ h1]
  simp only [h]
  rw [List.getElem_append_right (by omega)]
  have e : pre.length + j - pre.length = j := by omega
  simp only [e]
  rw [List.getElem_append_left (by simpa using hj), List.getElem_map]
  have hx := hb l[j] (List.getElem_mem hj)
  have e2 : l.getD j 0 = l[j] := by simp [List.getD, hj]
  rw [e2, UInt8.toNat_ofNat_of_lt' (show (l[j]).toNat < 256 by omega)]
  omega
theorem encF_bytes (d : Nat) : ∀ x : Int, 0 ≤ x → ∀ y ∈ encF d x, 0 ≤ y ∧ y < 256 := by
  induction d with
  | zero => intro x _ y hy; simp [encF] at hy
  | succ d ih =>
    intro x hx y hy
    simp only [encF] at hy
    split at hy
    · rcases List.mem_cons.1 hy with rfl | hy
      · omega
      · exact ih (x / 128) (by omega) y hy
    · rw [List.mem_singleton] at hy
      omega
theorem encF_early (d : Nat) : ∀ x : Int, 0 ≤ x → ∀ j, j + 1 < (encF d x).length → 128 ≤ (encF d x).getD j 0 := by
  induction d with
  | zero => intro x _ j h; simp [encF] at h
  | succ d ih =>
    intro x hx j h
    simp only [encF] at h ⊢
    split
    · rename_i hge
      rw [if_pos hge] at h
      cases j with
      | zero => simp; omega
      | succ j =>
        simp only [List.length_cons] at h
        have := ih (x / 128) (by omega) j (by omega)
        simpa using this
    · rename_i hlt
      rw [if_neg hlt] at h
      simp at h
/-- A number's bytes but for the last one: nothing is got. -/
theorem getnum_short {n : Int} (h0 : -9223372036854775808 ≤ n) (h1 : n ≤ 9223372036854775807) {m : Nat} (hm : m < (putNum n).size) {k : Nat} (hk : 32 < k) :
    impl_GetNum.f k ((putNum n).extract 0 m) 0 = some (0, 0, 4) := by
  obtain ⟨f0, f1⟩ := foldN_range h0 h1
  have hle := putNum_le n
  have hs : ((putNum n).extract 0 m).size = m := size_front _ _ (by omega)
  unfold impl_GetNum.f
  rw [long_one _ (by omega), Option.bind_some, if_neg (by simp only [decide_eq_true_eq]; omega), if_neg (by omega)]
  have h := get_short ((putNum n).extract 0 m) (by omega) 0 m 0 k 0 (by omega) (by omega) (fun j hj1 hj2 => ?_) (by omega)
  · exact h
  · have hj : j < ((putNum n).extract 0 m).toList.length := by rw [tl_length]; exact hj2
    have hsz := putNum_size n
    have hjl : j + 1 < (encF 10 (foldN n)).length := by omega
    rw [bt_list _ j hj]
    simp only [tl_front]
    rw [List.getElem_take]
    simp only [putNum, tl_nums]
    rw [List.getElem_map]
    have hx := encF_bytes 10 (foldN n) f0 _ (List.getElem_mem (show j < (encF 10 (foldN n)).length by omega))
    have he := encF_early 10 (foldN n) f0 j hjl
    have e2 : (encF 10 (foldN n)).getD j 0 = (encF 10 (foldN n))[j]'(by omega) := by simp [List.getD, show j < (encF 10 (foldN n)).length by omega]
    rw [e2] at he
    rw [UInt8.toNat_ofNat_of_lt' (show ((encF 10 (foldN n))[j]'(by omega)).toNat < 256 by omega)]
    omega
end Go.Proofs.Ytnofenbhioepbaa.QFnNums
