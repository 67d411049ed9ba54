/- Plain: what is drawn is always told, and is of its kind. -/
import Derived.Test.YtnofenbhioepbaaQFnSealx
import Derived.Test.YtnofenbhioepbaaBits
set_option linter.unusedSimpArgs false
set_option linter.unusedVariables false
namespace Go.Proofs.Ytnofenbhioepbaa.QFnSeal
open Go Go.RowKit Go.Proofs.Ytnofenbhioepbaa.Bits Go.Proofs.YtnofenbhioepbaaW.PrintWords

theorem tmod_in {u a : Int} (h0 : 0 ≤ u) (ha : 2 ≤ a) (hb : a < 9223372036854775808) : 0 ≤ wrap64 (Int.tmod u a) ∧ wrap64 (Int.tmod u a) < a := by
  rw [Int.tmod_eq_emod_of_nonneg h0]
  have h1 := Int.emod_nonneg u (show a ≠ 0 by omega)
  have h2 := Int.emod_lt_of_pos u (show 0 < a by omega)
  generalize u % a = r at *
  unfold wrap64
  omega
theorem u64_nonneg (x : Int) : 0 ≤ IntKind.u64.wrap x := by rw [wrap_u64]; omega
theorem u64_self {a : Int} (ha : 2 ≤ a) (hb : a < 9223372036854775808) : IntKind.u64.wrap a = a := by rw [wrap_u64]; omega
/-- A draw below a: told, in its range; the place does not go below nothing. -/
theorem n_told (l : List Int) (hl : l.length ≤ 140737488351232) (p mix size a : Int) (hp : 0 ≤ p) (ha : 2 ≤ a) (hb : a < 9223372036854775808) :
    ∃ v p' mix', spec_l01Src_n.f l p mix size a = some (v, p', mix', size) ∧ 0 ≤ v ∧ v < a ∧ 0 ≤ p' := by
  unfold spec_l01Src_n.f
  rw [if_neg (by omega), u64_self ha hb]
  by_cases h : p < (l.length : Int)
  · rw [if_pos h, if_pos hp, if_neg (by omega)]
    have h1 := tmod_in (u64_nonneg ((IntKind.u64.wrap (rd l p)) + ((Go.bits .xor .u64 (Go.bits .xor .u64 (Go.bits .xor .u64 mix (IntKind.u64.wrap (mix * 8192))) ((Go.bits .xor .u64 mix (IntKind.u64.wrap (mix * 8192))) / 128)) (IntKind.u64.wrap ((Go.bits .xor .u64 (Go.bits .xor .u64 mix (IntKind.u64.wrap (mix * 8192))) ((Go.bits .xor .u64 mix (IntKind.u64.wrap (mix * 8192))) / 128)) * 131072))) / 1048576))) ha hb
    have h2 : 0 ≤ wrap64 (p + 1) := by
      have e : wrap64 (p + 1) = p + 1 := by unfold wrap64; omega
      omega
    exact ⟨_, _, _, rfl, h1.1, h1.2, h2⟩
  · rw [if_neg h, if_neg (by omega)]
    have h1 := tmod_in (u64_nonneg (0 + ((Go.bits .xor .u64 (Go.bits .xor .u64 (Go.bits .xor .u64 mix (IntKind.u64.wrap (mix * 8192))) ((Go.bits .xor .u64 mix (IntKind.u64.wrap (mix * 8192))) / 128)) (IntKind.u64.wrap ((Go.bits .xor .u64 (Go.bits .xor .u64 mix (IntKind.u64.wrap (mix * 8192))) ((Go.bits .xor .u64 mix (IntKind.u64.wrap (mix * 8192))) / 128)) * 131072))) / 1048576))) ha hb
    exact ⟨_, _, _, rfl, h1.1, h1.2, hp⟩
theorem one_told (l : List Int) (hl : l.length ≤ 140737488351232) (p mix size a : Int) (hp : 0 ≤ p) (ha : 2 ≤ a) (hb : a < 9223372036854775808) :
    ∃ v p' mix', spec_l01Src_one.f l p mix size a = some (v, p', mix', size) ∧ 0 ≤ p' := by
  obtain ⟨v, p', mix', h, _, _, h2⟩ := n_told l hl p mix size a hp ha hb
  exact ⟨(v == 0), p', mix', by unfold spec_l01Src_one.f; rw [h]; rfl, h2⟩
theorem source_l0 (l : List Int) (hl : l.length ≤ 140737488351232) (d : Nat) : ∀ (k : Nat) (i mix : Int), 0 ≤ i → 64 - i = d → d < k → ∃ mix' size, spec_l01Source.l0 k l i l 0 mix 0 = some (l, 0, mix', size) := by
  induction d with
  | zero =>
    intro k i mix h0 hd hk
    obtain ⟨k, rfl⟩ : ∃ m, k = m + 1 := ⟨k - 1, by omega⟩
    simp only [spec_l01Source.l0]
    by_cases h : i < (l.length : Int)
    · rw [if_pos h, if_neg (by omega)]
      split <;> exact ⟨_, _, rfl⟩
    · rw [if_neg h]
      split <;> exact ⟨_, _, rfl⟩
  | succ d ih =>
    intro k i mix h0 hd hk
    obtain ⟨k, rfl⟩ : ∃ m, k = m + 1 := ⟨k - 1, by omega⟩
    simp only [spec_l01Source.l0]
    by_cases h : i < (l.length : Int)
    · have e : wrap64 (i + 1) = i + 1 := by unfold wrap64; omega
      rw [if_pos h, if_pos (by omega), if_pos h0, e]
      exact ih k (i + 1) _ (by omega) (by omega) (by omega)
    · rw [if_neg h]
      split <;> exact ⟨_, _, rfl⟩
theorem source_told (l : List Int) (hl : l.length ≤ 140737488351232) {k : Nat} (hk : 64 < k) : ∃ mix size, spec_l01Source.f k l = some (l, 0, mix, size) :=
  source_l0 l hl 64 k 0 _ (by omega) (by omega) hk
theorem edge_told (l : List Int) (hl : l.length ≤ 140737488351232) (p mix size : Int) (hp : 0 ≤ p) :
    ∃ v p' mix', spec_l01Src_edge.f l p mix size = some (v, p', mix', size) ∧ -9223372036854775808 ≤ v ∧ v ≤ 9223372036854775807 ∧ 0 ≤ p' := by
  obtain ⟨i, p', mix', h, h0, h1, h2⟩ := n_told l hl p mix size 14 hp (by omega) (by omega)
  unfold spec_l01Src_edge.f
  simp only [Option.bind_some, h]
  have hlen : ((([0, 1, (-1), 2, 1000, 1001, 2147483648, 2147483647, (-2147483648), 4611686018427387904, 9223372036854775807, (-9223372036854775808), 1000000, 1000001] : List Int).length : Nat) : Int) = 14 := rfl
  rw [if_pos h0, hlen, if_pos h1]
  refine ⟨_, p', mix', rfl, ?_, ?_, h2⟩
  all_goals
    obtain ⟨n, rfl⟩ := Int.eq_ofNat_of_zero_le h0
    have hn : n < 14 := by omega
    have hall : ∀ x ∈ ([0, 1, (-1), 2, 1000, 1001, 2147483648, 2147483647, (-2147483648), 4611686018427387904, 9223372036854775807, (-9223372036854775808), 1000000, 1000001] : List Int), -9223372036854775808 ≤ x ∧ x ≤ 9223372036854775807 := by decide
    have e : rd ([0, 1, (-1), 2, 1000, 1001, 2147483648, 2147483647, (-2147483648), 4611686018427387904, 9223372036854775807, (-9223372036854775808), 1000000, 1000001] : List Int) (n : Int) ∈ ([0, 1, (-1), 2, 1000, 1001, 2147483648, 2147483647, (-2147483648), 4611686018427387904, 9223372036854775807, (-9223372036854775808), 1000000, 1000001] : List Int) := by
      unfold rd
      rw [Int.toNat_natCast, List.getD_eq_getElem?_getD, List.getElem?_eq_getElem (by simpa using hn), Option.getD_some]
      exact List.getElem_mem _
  · exact (hall _ e).1
  · exact (hall _ e).2
theorem bytes_l0 (l : List Int) (hl : l.length ≤ 140737488351232) (size a : Int) (ha : a ≤ 256) (d : Nat) : ∀ (k : Nat) (xs : List Int) (i p mix : Int), 0 ≤ p → 0 ≤ i → a - i ≤ d → xs.length ≤ i → (∀ x ∈ xs, 0 ≤ x ∧ x < 256) → d < k → ∃ ys p' mix', spec_l01Src_bytes.l0 k a xs i l p mix size = some (strOfNums ys, p', mix', size) ∧ ys.length ≤ xs.length + d ∧ 0 ≤ p' := by
  induction d with
  | zero =>
    intro k xs i p mix hp hi hd hx hb hk
    obtain ⟨k, rfl⟩ : ∃ m, k = m + 1 := ⟨k - 1, by omega⟩
    simp only [spec_l01Src_bytes.l0]
    rw [if_neg (by omega)]
    exact ⟨xs, p, mix, rfl, by omega, hp⟩
  | succ d ih =>
    intro k xs i p mix hp hi hd hx hb hk
    obtain ⟨k, rfl⟩ : ∃ m, k = m + 1 := ⟨k - 1, by omega⟩
    simp only [spec_l01Src_bytes.l0]
    by_cases h : i < a
    · obtain ⟨v, p', mix', hn, h0, h1, h2⟩ := n_told l hl p mix size 256 hp (by omega) (by omega)
      have e : wrap64 (i + 1) = i + 1 := by unfold wrap64; omega
      rw [if_pos h, hn]
      simp only [Option.bind_some]
      rw [if_pos (by omega), e]
      obtain ⟨ys, q, m, hy, hlen, hq⟩ := ih k (xs ++ [v % 256]) (i + 1) p' mix' h2 (by omega) (by omega) (by simp; omega) (fun x hx2 => by
        rcases List.mem_append.1 hx2 with hx2 | hx2
        · exact hb x hx2
        · rw [List.mem_singleton] at hx2
          omega) (by omega)
      exact ⟨ys, q, m, hy, by simp at hlen; omega, hq⟩
    · rw [if_neg h]
      exact ⟨xs, p, mix, rfl, by omega, hp⟩
theorem bytes_told (l : List Int) (hl : l.length ≤ 140737488351232) (p mix size a : Int) (hp : 0 ≤ p) (ha : a ≤ 256) {k : Nat} (hk : 256 < k) :
    ∃ (s : ByteArray) (p' mix' : Int), spec_l01Src_bytes.f k l p mix size a = some (s, p', mix', size) ∧ s.size ≤ 256 ∧ 0 ≤ p' := by
  obtain ⟨ys, q, m, h, hlen, hq⟩ := bytes_l0 l hl size a ha 256 k [] 0 p mix hp (by omega) (by omega) (by simp) (fun x hx => by cases hx) hk
  exact ⟨strOfNums ys, q, m, h, by rw [strOfNums_size]; simpa using hlen, hq⟩
end Go.Proofs.Ytnofenbhioepbaa.QFnSeal
