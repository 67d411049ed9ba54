/- Proved: the law FnSeal, called with any two rows of bytes, answers true. -/
import Derived.Test.YtnofenbhioepbaaWalkFnSeal
set_option linter.unusedSimpArgs false
set_option linter.unusedVariables false
namespace Go.Proofs.Ytnofenbhioepbaa.QFnSeal
open Go Go.RowKit Go.Proofs.Ytnofenbhioepbaa.Bits Go.Proofs.Ytnofenbhioepbaa.Bytes Go.Proofs.YtnofenbhioepbaaW.PrintWords

theorem more_edge (c : Int) (a : ByteArray) {k : Nat} (hk : 10 * a.size + 2 ≤ k) (ha : a.size ≤ 20000) : ∃ v, impl_CrcMore.f k c a = some v ∧ spec_CrcMore.f k c a = some v := by
  by_cases h3 : 0 ≤ c ∧ c ≤ 4294967295
  · exact ⟨_, more_impl c a hk ha h3.1 h3.2, more_spec c a hk ha h3.1 h3.2⟩
  · refine ⟨0, ?_, ?_⟩
    · unfold impl_CrcMore.f
      rw [long_one a (by omega), Option.bind_some, if_neg (by simp only [decide_eq_true_eq]; omega), in_is, Option.bind_some, if_neg (by simp only [decide_eq_true_eq]; exact h3)]
    · unfold spec_CrcMore.f
      rw [if_neg (by omega)]
      by_cases h4 : c < 0
      · rw [if_pos h4]
      · rw [if_neg h4, if_pos (by omega)]
theorem law_walk (A0 : Option Addr) (c0 : Nat) (l0 : List Int) (A1 : Option Addr) (c1 : Nat) (l1 : List Int) (w : World) (hr0 : Kd.C (Kd.int .u8) w A0 l0.length l0) (hc0 : l0.length ≤ c0) (hr1 : Kd.C (Kd.int .u8) w A1 l1.length l1) (hc1 : l1.length ≤ c1)
    (hb1 : ∀ x ∈ l1, 0 ≤ x ∧ x ≤ 255) :
    Calls Try.prog 4 #[.slice A0 l0.length c0, .slice A1 l1.length c1] w fun e w' => e = .returned (.bool true) ∧ Below w.heap.size w w' := by
  by_cases hl0 : l0.length > 1048576
  · exact law_long A0 c0 l0 A1 c1 l1 w (.inl hl0)
  by_cases hl1 : l1.length > 1048576
  · exact law_long A0 c0 l0 A1 c1 l1 w (.inr hl1)
  obtain ⟨t, ht, htz⟩ := draw_seal l0 (by omega) (k := 300000) (by omega)
  obtain ⟨c, u, hd, huz⟩ := draw_more l1 (by omega) (k := 300000) (by omega)
  have hs1 := impl_seal t (k := 300000) (by omega)
  have hs2 := spec_seal t (k := 300000) (by omega)
  obtain ⟨cm, hm1, hm2⟩ := more_edge c u (k := 300000) (by omega) (by omega)
  have hend : t.size + u.size > 20000 ∨ (¬ t.size + u.size > 20000 ∧ impl_CrcMore.f 300000 c u = some cm ∧ spec_CrcMore.f 300000 c u = some cm ∧ impl_Crc.f 300000 t = some ((crcV 0 t : Nat) : Int) ∧ impl_CrcMore.f 300000 ((crcV 0 t : Nat) : Int) u = some ((crcV 0 (t ++ u) : Nat) : Int) ∧ impl_Crc.f 300000 (t ++ u) = some ((crcV 0 (t ++ u) : Nat) : Int)) := by
    by_cases h : t.size + u.size > 20000
    · exact .inl h
    · have hv := crcV_lt (c := 0) (by omega) t
      refine .inr ⟨h, hm1, hm2, impl_crc t (by omega) (by omega), ?_, impl_crc (t ++ u) (by rw [ByteArray.size_append]; omega) (by rw [ByteArray.size_append]; omega)⟩
      rw [more_impl _ u (by omega) (by omega) (by omega) (by omega), Int.toNat_natCast, crcV_more]
  by_cases hlong : (t.size : Int) > 19996
  · have e : sealS t = ⟨#[]⟩ := by unfold sealS; rw [if_pos hlong]
    exact law_empty 300000 A0 c0 l0 A1 c1 l1 w hr0 hc0 hr1 hc1 (by omega) (by omega) t u (sealS t) c cm _ _ htz huz ht hs1 hs2 e hd hend
  · have e : sealS t = t ++ four (crcV 0 t) := by unfold sealS; rw [if_neg hlong]
    have hs : (sealS t).size = t.size + 4 := by rw [e, ByteArray.size_append, four_size]
    obtain ⟨p, hp, hp0, hp1⟩ := lw_told l1 (by omega) hb1 0 ((sealS t).size : Int) (by omega) (by omega) (by omega)
    obtain ⟨v, hv, hv0, hv1⟩ := lw_told l1 (by omega) hb1 1 255 (by omega) (by omega) (by omega)
    obtain ⟨q, rfl⟩ := Int.eq_ofNat_of_zero_le hp0
    have hq : q < (sealS t).size := by omega
    have hql : q < (sealS t).data.toList.length := by rw [data_length]; exact hq
    have hne : (sealS t).toList ≠ [] := by
      intro h
      have := tl_length (sealS t)
      rw [h] at this
      simp at this
      omega
    have hun := impl_unseal (sealS t) (k := 300000) (by omega)
    rw [unseal_back t hlong] at hun
    have hgd : (sealS t).data.toList.getD q 0 = (sealS t).data.toList[q] := by rw [List.getD_eq_getElem?_getD, List.getElem?_eq_getElem hql, Option.getD_some]
    obtain ⟨hy0, hy1, hyn⟩ := turned_ne ((sealS t).data.toList[q]) v hv0 hv1
    have hbl : (strOfNums (((sealS t).data.toList.map fun z => (z.toNat : Int)).set q (Go.bits .xor .u8 (((sealS t).data.toList.getD q 0).toNat : Int) ((1 + v) % 256)))).toList = (sealS t).toList.set q (UInt8.ofNat (turned ((sealS t).data.toList[q]) v).toNat) := by
      rw [tl, tl]
      show List.map _ _ = _
      rw [List.map_set, hgd]
      congr 1
      rw [List.map_map]
      conv => rhs; rw [← List.map_id (sealS t).data.toList]
      apply List.map_congr_left
      intro z _
      simp
    have hqt : q < (sealS t).toList.length := by rw [tl_length]; exact hq
    have h5 := unseal_turned t _ hlong q (UInt8.ofNat (turned ((sealS t).data.toList[q]) v).toNat) hqt (by
      have e2 : (sealS t).toList[q] = (sealS t).data.toList[q] := by simp only [tl]
      rw [e2]
      exact hyn) hbl
    have hsb : (strOfNums (((sealS t).data.toList.map fun z => (z.toNat : Int)).set q (Go.bits .xor .u8 (((sealS t).data.toList.getD q 0).toNat : Int) ((1 + v) % 256)))).size = (sealS t).size := by
      rw [strOfNums_size, List.length_set, List.length_map, data_length]
    have hub := impl_unseal (strOfNums (((sealS t).data.toList.map fun z => (z.toNat : Int)).set q (Go.bits .xor .u8 (((sealS t).data.toList.getD q 0).toNat : Int) ((1 + v) % 256)))) (k := 300000) (by omega)
    generalize hX : unsealS (strOfNums (((sealS t).data.toList.map fun z => (z.toNat : Int)).set q (Go.bits .xor .u8 (((sealS t).data.toList.getD q 0).toNat : Int) ((1 + v) % 256)))) = X at h5 hub
    obtain ⟨x, y, z⟩ := X
    simp only at h5
    subst h5
    exact law_full 300000 A0 c0 l0 A1 c1 l1 w hr0 hc0 hr1 hc1 (by omega) (by omega) t u (sealS t) c cm _ _ htz huz (by omega) ht hs1 hs2 hne hd q v hq hp hv hv0 hv1 hun _ x y rfl hub hend
theorem law_rows (a0 : Option Addr) (len0 cap0 : Nat) (z0 : List Int) (a1 : Option Addr) (len1 cap1 : Nat) (z1 : List Int) (w : World) (w0 : (a0 = none ∧ len0 = 0 ∧ cap0 = 0 ∧ z0 = []) ∨ ∃ x, a0 = some x ∧ len0 ≤ cap0 ∧ cap0 ≤ maxLen ∧ z0.length = cap0 ∧ (∀ i, i < z0.length → w.cell? (x.add i) = some (.int .u8 (z0.getD i 0))) ∧ ∀ n ∈ z0, (Lit.int .u8 n).wf = true) (_ : len0 * 1 ≤ 140737488351232) (w1 : (a1 = none ∧ len1 = 0 ∧ cap1 = 0 ∧ z1 = []) ∨ ∃ x, a1 = some x ∧ len1 ≤ cap1 ∧ cap1 ≤ maxLen ∧ z1.length = cap1 ∧ (∀ i, i < z1.length → w.cell? (x.add i) = some (.int .u8 (z1.getD i 0))) ∧ ∀ n ∈ z1, (Lit.int .u8 n).wf = true) (_ : len1 * 1 ≤ 140737488351232) :
    Calls Try.prog 4 #[.slice a0 len0 cap0, .slice a1 len1 cap1] w fun e w' => e = .returned (.bool true) ∧ Below w.heap.size w w' := by
  obtain ⟨l0, rfl, hr0, _, _, hc0⟩ := ReadsInt.ofRowC w0
  obtain ⟨l1, rfl, hr1, _, hw1, hc1⟩ := ReadsInt.ofRowC w1
  exact law_walk _ _ l0 _ _ l1 w (Kd.C_of_reads (d := (0 : Int)) (h1 := fun _ => rfl) hr0) hc0 (Kd.C_of_reads (d := (0 : Int)) (h1 := fun _ => rfl) hr1) hc1 (fun x hx => by
    have := hw1 x hx
    simp [Lit.wf, IntKind.min, IntKind.max, IntKind.signed, IntKind.bits] at this
    omega)
end Go.Proofs.Ytnofenbhioepbaa.QFnSeal
