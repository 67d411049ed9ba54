/- Plain: what the law FnSeal comes to at each of its calls, whatever it draws from. -/
import Derived.Test.YtnofenbhioepbaaDrawFnSeal
import Derived.Test.YtnofenbhioepbaaSealSpecFnSeal
import Derived.Test.YtnofenbhioepbaaUnsealFnSeal
import Derived.Test.YtnofenbhioepbaaCrcMoreFnSeal
import Derived.Test.YtnofenbhioepbaaCrcTurnFnSeal
set_option linter.unusedSimpArgs false
set_option linter.unusedVariables false
namespace Go.Proofs.Ytnofenbhioepbaa.QFnSeal
open Go Go.RowKit Go.Proofs.Ytnofenbhioepbaa.Bits Go.Proofs.Ytnofenbhioepbaa.Bytes Go.Proofs.YtnofenbhioepbaaW.PrintWords

theorem draw_seal (l : List Int) (hl : l.length ≤ 140737488351232) {k : Nat} (hk : 300 < k) : ∃ s : ByteArray, spec_DrawSeal.f k l = some s ∧ s.size ≤ 20001 := by
  obtain ⟨mix, size, h⟩ := source_told l hl (k := k) (by omega)
  unfold spec_DrawSeal.f
  rw [h]
  simp only [Option.bind_some]
  obtain ⟨v, p, m, h1, hp⟩ := one_told l hl 0 mix size 30 (by omega) (by omega) (by omega)
  rw [h1]
  simp only [Option.bind_some]
  cases v with
  | true =>
    obtain ⟨n, p2, m2, h2, a, b, _⟩ := n_told l hl p m size 3 hp (by omega) (by omega)
    rw [if_pos rfl, h2]
    simp only [Option.bind_some]
    have e : wrap64 (19995 + n) = 19995 + n := by unfold wrap64; omega
    rw [e, if_pos (by omega), if_pos (by omega)]
    exact ⟨_, rfl, by rw [strOfNums_size, List.length_replicate]; omega⟩
  | false =>
    obtain ⟨n, p2, m2, h2, a, b, hp2⟩ := n_told l hl p m size 20 hp (by omega) (by omega)
    rw [if_neg (by decide), h2]
    simp only [Option.bind_some]
    obtain ⟨s, p3, m3, h3, hs, _⟩ := bytes_told l hl p2 m2 size n hp2 (by omega) (k := k) (by omega)
    rw [h3]
    exact ⟨s, rfl, by omega⟩
theorem spec_crc_told (a : ByteArray) (ha : a.size ≤ 20000) {k : Nat} (hk : 10 * a.size + 2 ≤ k) : spec_Crc.f k a = some ((crcV 0 a : Nat) : Int) := by
  unfold spec_Crc.f
  rw [if_neg (by omega), spec_crc0 a (by omega) (by omega)]
  rfl
theorem draw_more (l : List Int) (hl : l.length ≤ 140737488351232) {k : Nat} (hk : 3000 < k) : ∃ (c : Int) (s : ByteArray), spec_DrawCrcMore.f k l = some (c, s) ∧ s.size ≤ 256 := by
  obtain ⟨mix, size, h⟩ := source_told l hl (k := k) (by omega)
  unfold spec_DrawCrcMore.f
  rw [h]
  simp only [Option.bind_some]
  obtain ⟨n, p, m, h2, a, b, hp⟩ := n_told l hl 0 mix size 9 (by omega) (by omega) (by omega)
  rw [h2]
  simp only [Option.bind_some]
  obtain ⟨s, p3, m3, h3, hs, hp3⟩ := bytes_told l hl p m size n hp (by omega) (k := k) (by omega)
  rw [h3]
  simp only [Option.bind_some]
  obtain ⟨v, p4, m4, h4, hp4⟩ := one_told l hl p3 m3 size 5 hp3 (by omega) (by omega)
  rw [h4]
  simp only [Option.bind_some]
  cases v with
  | true =>
    obtain ⟨c, p5, m5, h5, _, _, _⟩ := edge_told l hl p4 m4 size hp4
    rw [if_pos rfl, h5]
    exact ⟨_, _, rfl, by omega⟩
  | false =>
    obtain ⟨n2, p5, m5, h5, a5, b5, hp5⟩ := n_told l hl p4 m4 size 9 hp4 (by omega) (by omega)
    rw [if_neg (by decide), h5]
    simp only [Option.bind_some]
    obtain ⟨s6, p6, m6, h6, hs6, _⟩ := bytes_told l hl p5 m5 size n2 hp5 (by omega) (k := k) (by omega)
    rw [h6]
    simp only [Option.bind_some]
    rw [spec_crc_told s6 (by omega) (by omega)]
    exact ⟨_, _, rfl, by omega⟩
theorem lw_told (l : List Int) (hl : l.length ≤ 140737488351232) (hb : ∀ x ∈ l, 0 ≤ x ∧ x ≤ 255) (i : Int) (m : Int) (h0 : 0 ≤ i) (hm : 1 ≤ m) (hm2 : m ≤ 1000000) : ∃ v, laws_lwAt.f l i m = some v ∧ 0 ≤ v ∧ v < m := by
  unfold laws_lwAt.f
  by_cases h1 : m ≤ 1
  · rw [if_pos h1]
    exact ⟨0, rfl, by omega, by omega⟩
  · rw [if_neg h1]
    by_cases h2 : (l.length : Int) = 0
    · rw [if_pos h2]
      exact ⟨0, rfl, by omega, by omega⟩
    · rw [if_neg h2, Int.tmod_eq_emod_of_nonneg h0]
      have h3 := Int.emod_nonneg i h2
      have h4 := Int.emod_lt_of_pos i (show 0 < (l.length : Int) by omega)
      rw [if_pos h3, if_pos h4, if_neg (by omega)]
      generalize i % (l.length : Int) = j at h3 h4
      have h5 : 0 ≤ rd l j ∧ rd l j ≤ 255 := by
        unfold rd
        rw [List.getD_eq_getElem?_getD, List.getElem?_eq_getElem (by omega), Option.getD_some]
        exact hb _ (List.getElem_mem _)
      have e : wrap64 (rd l j) = rd l j := by unfold wrap64; omega
      rw [e, Int.tmod_eq_emod_of_nonneg h5.1]
      exact ⟨_, rfl, Int.emod_nonneg _ (by omega), Int.emod_lt_of_pos _ (by omega)⟩
/-- The byte that is put in a byte's place. -/
def turned (x : UInt8) (v : Int) : Int := Go.bits .xor .u8 (x.toNat : Int) ((1 + v) % 256)
theorem turned_ne (x : UInt8) (v : Int) (h0 : 0 ≤ v) (h1 : v < 255) : 0 ≤ turned x v ∧ turned x v < 256 ∧ UInt8.ofNat (turned x v).toNat ≠ x := by
  unfold turned
  obtain ⟨n, rfl⟩ := Int.eq_ofNat_of_zero_le h0
  have e : (1 + (n : Int)) % 256 = ((1 + n : Nat) : Int) := by omega
  have hx : x.toNat < 256 := x.toNat_lt
  rw [e, xor_u8 hx (by omega)]
  have hlt : x.toNat ^^^ (1 + n) < 256 := Nat.xor_lt_two_pow (n := 8) hx (by omega)
  refine ⟨by omega, by omega, fun h => ?_⟩
  rw [Int.toNat_natCast] at h
  have h2 := congrArg UInt8.toNat h
  rw [UInt8.toNat_ofNat_of_lt' hlt] at h2
  have h3 : (1 + n) = 0 := by
    have h4 := congrArg (x.toNat ^^^ ·) h2
    simp only [← Nat.xor_assoc, Nat.xor_self, Nat.zero_xor] at h4
    exact h4
  omega
theorem unseal_back (t : ByteArray) (ht : ¬ (t.size : Int) > 19996) : unsealS (sealS t) = (t, 0, 0) := by
  have e : sealS t = t ++ four (crcV 0 t) := by unfold sealS; rw [if_neg ht]
  have hs : (sealS t).size = t.size + 4 := by rw [e, ByteArray.size_append, four_size]
  have hf : (sealS t).extract 0 ((sealS t).size - 4) = t := by
    refine tl_inj ?_
    rw [tl_front, e, tl_append, ByteArray.size_append, four_size, show t.size + 4 - 4 = t.toList.length by rw [tl_length]; omega, List.take_left]
  unfold unsealS
  rw [if_neg (by omega), if_neg (by omega), hf, if_pos]
  rw [e, tl_append, ByteArray.size_append, four_size, show t.size + 4 - 4 = t.toList.length by rw [tl_length]; omega, List.drop_left]
theorem unseal_turned (t b : ByteArray) (ht : ¬ (t.size : Int) > 19996) (at_ : Nat) (y : UInt8) (hat : at_ < (sealS t).toList.length) (hy : y ≠ (sealS t).toList[at_]) (hb : b.toList = (sealS t).toList.set at_ y) : (unsealS b).2.2 = 5 := by
  have e : sealS t = t ++ four (crcV 0 t) := by unfold sealS; rw [if_neg ht]
  have hsl : (sealS t).toList = t.toList ++ (four (crcV 0 t)).toList := by rw [e, tl_append]
  have hs : (sealS t).size = t.size + 4 := by rw [e, ByteArray.size_append, four_size]
  have hbs : b.size = t.size + 4 := by rw [← tl_length, hb, List.length_set, tl_length, hs]
  have hfl : (four (crcV 0 t)).toList.length = 4 := by rw [tl_length, four_size]
  unfold unsealS
  rw [if_neg (by omega), if_neg (by omega), if_neg]
  intro h
  rw [hbs, show t.size + 4 - 4 = t.size by omega] at h
  by_cases hlt : at_ < t.size
  · -- a byte of the text
    have hbl : b.toList = (t.toList.set at_ y) ++ (four (crcV 0 t)).toList := by rw [hb, hsl, List.set_append_left _ _ (by rw [tl_length]; exact hlt)]
    have hfront : (b.extract 0 t.size).toList = t.toList.set at_ y := by
      rw [tl_front, hbl, List.take_left' (by rw [List.length_set, tl_length])]
    have hback : b.toList.drop t.size = (four (crcV 0 t)).toList := by
      rw [hbl, List.drop_left' (by rw [List.length_set, tl_length])]
    rw [hback] at h
    have h2 := four_inj (crcV_lt (by omega) _) (crcV_lt (by omega) _) h
    have hlt2 : at_ < t.toList.length := by rw [tl_length]; exact hlt
    have hx : (sealS t).toList[at_] = t.toList[at_] := by
      simp only [hsl]
      rw [List.getElem_append_left hlt2]
    rw [hx] at hy
    refine crcV_turn (a := b.extract 0 t.size) (b := t) (t.toList.take at_) (t.toList.drop (at_ + 1)) hy ?_ ?_ h2
    · rw [hfront, List.set_eq_take_append_cons_drop, if_pos hlt2]
    · rw [List.getElem_cons_drop, List.take_append_drop]
  · have hlen : at_ < t.size + 4 := by rw [tl_length, hs] at hat; exact hat
    have hbl : b.toList = t.toList ++ (four (crcV 0 t)).toList.set (at_ - t.size) y := by
      rw [hb, hsl, List.set_append_right _ _ (by rw [tl_length]; omega), tl_length]
    have hfront : b.extract 0 t.size = t := by
      refine tl_inj ?_
      rw [tl_front, hbl, List.take_left' (tl_length t)]
    have hback : b.toList.drop t.size = (four (crcV 0 t)).toList.set (at_ - t.size) y := by
      rw [hbl, List.drop_left' (tl_length t)]
    rw [hback, hfront] at h
    have hlt2 : at_ - t.size < (four (crcV 0 t)).toList.length := by omega
    have hx : (sealS t).toList[at_] = (four (crcV 0 t)).toList[at_ - t.size] := by
      simp only [hsl]
      rw [List.getElem_append_right (by rw [tl_length]; omega)]
      simp only [tl_length]
    rw [hx] at hy
    have h3 := congrArg (fun l => l[at_ - t.size]?) h
    simp only [List.getElem?_set_self hlt2, List.getElem?_eq_getElem hlt2] at h3
    exact hy (Option.some.inj h3).symm
end Go.Proofs.Ytnofenbhioepbaa.QFnSeal
