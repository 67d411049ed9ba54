/- Proved: laws.FnNums, as walked, tells true whatever is drawn from. -/
import Derived.Test.YtnofenbhioepbaaGetFnNums
import Derived.Test.YtnofenbhioepbaaDrawFnNums
set_option linter.unusedSimpArgs false
set_option linter.unusedVariables false
namespace Go.Proofs.Ytnofenbhioepbaa.Pure
open Go Go.RowKit Go.Proofs.Ytnofenbhioepbaa.Bytes Go.Proofs.Ytnofenbhioepbaa.QFnNums Go.Proofs.YtnofenbhioepbaaW.PrintWords

theorem draw_num (l : List Int) (hl : l.length ≤ 140737488351232) {k : Nat} (hk : 300 < k) : ∃ n, spec_DrawPutNum.f k l = some n ∧ -9223372036854775808 ≤ n ∧ n ≤ 9223372036854775807 := by
  obtain ⟨mix, size, h⟩ := source_told l hl (k := k) (by omega)
  unfold spec_DrawPutNum.f
  rw [h]
  simp only [Option.bind_some]
  unfold spec_l01Src_l01Any.f
  obtain ⟨v, p, m, h1, hp⟩ := one_told l hl 0 mix size 4 (by omega) (by omega) (by omega)
  rw [h1]
  simp only [Option.bind_some]
  cases v with
  | true =>
    obtain ⟨n, p2, m2, h2, a, b, _⟩ := edge_told l hl p m size hp
    exact ⟨n, by rw [if_pos rfl, h2]; rfl, a, b⟩
  | false =>
    obtain ⟨n, p2, m2, h2, a, b, _⟩ := n_told l hl p m size 1099511627776 hp (by omega) (by omega)
    refine ⟨wrap64 (n - 1048576), by rw [if_neg (by decide), h2]; rfl, ?_, ?_⟩ <;> unfold wrap64 <;> omega
theorem draw_text (l : List Int) (hl : l.length ≤ 140737488351232) {k : Nat} (hk : 300 < k) : ∃ s : ByteArray, spec_DrawPutText.f k l = some s ∧ s.size ≤ 20001 := by
  obtain ⟨mix, size, h⟩ := source_told l hl (k := k) (by omega)
  unfold spec_DrawPutText.f
  rw [h]
  simp only [Option.bind_some]
  obtain ⟨v, p, m, h1, hp⟩ := one_told l hl 0 mix size 8 (by omega) (by omega) (by omega)
  rw [h1]
  simp only [Option.bind_some]
  cases v with
  | true =>
    obtain ⟨n, p2, m2, h2, a, b, _⟩ := n_told l hl p m size 3 hp (by omega) (by omega)
    rw [if_pos rfl, h2]
    simp only [Option.bind_some]
    have e : wrap64 (19999 + n) = 19999 + n := by unfold wrap64; omega
    rw [e, if_pos (by omega), if_pos (by omega)]
    exact ⟨_, rfl, by rw [strOfNums_size, List.length_replicate]; omega⟩
  | false =>
    obtain ⟨n, p2, m2, h2, a, b, hp2⟩ := n_told l hl p m size 20 hp (by omega) (by omega)
    rw [if_neg (by decide), h2]
    simp only [Option.bind_some]
    obtain ⟨s, p3, m3, h3, hs, _⟩ := bytes_told l hl p2 m2 size n hp2 (by omega) (k := k) (by omega)
    rw [h3]
    exact ⟨s, rfl, by omega⟩
theorem in_is (a b c : Int) : impl_in.f a b c = some (decide (b ≤ a ∧ a ≤ c)) := by
  unfold impl_in.f
  by_cases h : a ≥ b
  · rw [if_pos h]; simp [show b ≤ a from h]
  · rw [if_neg h, decide_eq_false (by omega)]
/-- What PutText puts. -/
def putText (u : ByteArray) : ByteArray := if (u.size : Int) > 20000 then ⟨#[]⟩ else putNum (u.size : Int) ++ u
theorem put_text_impl (u : ByteArray) (hu : u.size ≤ 20001) {k : Nat} (hk : 30 < k) : impl_PutText.f k u = some (putText u) := by
  unfold impl_PutText.f putText
  rw [long_one u (by omega), Option.bind_some]
  by_cases h : (u.size : Int) > 20000
  · rw [if_pos (decide_eq_true h), if_pos h]
  · rw [if_neg (by simp only [decide_eq_true_eq]; exact h), if_neg h, put_impl (by omega) (by omega) (by omega), Option.bind_some, if_pos (by have := putNum_le (u.size : Int); omega)]
theorem put_text_spec (u : ByteArray) (hu : u.size ≤ 20001) {k : Nat} (hk : 30 < k) : spec_PutText.f k u = some (putText u) := by
  unfold spec_PutText.f putText
  by_cases h : (u.size : Int) > 20000
  · rw [if_pos h, if_pos h]
  · rw [if_neg h, if_neg h, put_spec (by omega) (by omega) (by omega), Option.bind_some, if_pos (by have := putNum_le (u.size : Int); omega)]
theorem enc_bytes (n : Int) (h0 : -9223372036854775808 ≤ n) (h1 : n ≤ 9223372036854775807) : ∀ x ∈ encF 10 (foldN n), 0 ≤ x ∧ x < 256 := encF_bytes 10 _ (foldN_range h0 h1).1
theorem empty_tl : (⟨#[]⟩ : ByteArray).toList = ([] : List UInt8) := by rw [tl]
/-- The first part: a number comes back; of its bytes but the last nothing comes. -/
theorem num_back {n : Int} (h0 : -9223372036854775808 ≤ n) (h1 : n ≤ 9223372036854775807) {k : Nat} (hk : 40 < k) :
    impl_GetNum.f k (((⟨#[120, 121]⟩ : ByteArray) ++ putNum n) ++ (⟨#[122]⟩ : ByteArray)) 2 = some (n, ((2 + (putNum n).size : Nat) : Int), 0) := by
  have hle := putNum_le n
  have hs : ((((⟨#[120, 121]⟩ : ByteArray) ++ putNum n) ++ (⟨#[122]⟩ : ByteArray))).size = 2 + (putNum n).size + 1 := by rw [ByteArray.size_append, ByteArray.size_append]; rfl
  have hat := hasAt_of (((⟨#[120, 121]⟩ : ByteArray) ++ putNum n) ++ (⟨#[122]⟩ : ByteArray)) (encF 10 (foldN n)) [122] [120, 121] (by
    rw [tl_append, tl_append, tl (⟨#[120, 121]⟩ : ByteArray), tl (⟨#[122]⟩ : ByteArray)]
    unfold putNum
    rw [tl_nums]
    simp) (enc_bytes n h0 h1)
  have h := getnum_put _ (by omega) 2 h0 h1 hat (k := k) (by omega)
  rw [putNum_size]
  exact h
theorem j3_told (u : ByteArray) (hu : u.size ≤ 20001) {k : Nat} (hk : 100 < k) : laws_FnNums.j3 k u (putText u) ((putText u).toList == ([] : List UInt8)) = some true := by
  obtain ⟨k, rfl⟩ : ∃ m, k = m + 1 := ⟨k - 1, by omega⟩
  simp only [laws_FnNums.j3]
  by_cases hl : (u.size : Int) > 20000
  · have e : putText u = ⟨#[]⟩ := by unfold putText; rw [if_pos hl]
    rw [if_pos (by rw [e, empty_tl]; rfl), put_text_spec u hu (by omega), Option.bind_some]
    simp
  · have e : putText u = putNum (u.size : Int) ++ u := by unfold putText; rw [if_neg hl]
    have hle := putNum_le (u.size : Int)
    have hpos : 0 < (putNum (u.size : Int)).size := by rw [putNum_size]; exact encF_pos 10 (by omega) _
    have hsz : (putText u).size = (putNum (u.size : Int)).size + u.size := by rw [e, ByteArray.size_append]
    have hne : ¬ ((putText u).toList == ([] : List UInt8)) = true := by
      intro h
      have h2 := beq_iff_eq.mp h
      have h3 := tl_length (putText u)
      rw [h2] at h3
      simp at h3
      omega
    have w1 : wrap64 (((putText u).size : Int) + 1) = ((putText u).size : Int) + 1 := by unfold wrap64; omega
    have w2 : wrap64 (((putText u).size : Int) - 1) = (((putText u).size - 1 : Nat) : Int) := by unfold wrap64; omega
    rw [if_neg hne, w1]
    by_cases hb : ((putText u).size : Int) + 1 > 20000
    · rw [if_pos hb]
    · rw [if_neg hb, if_pos (by omega)]
      -- the text comes back
      have hs1 : ((⟨#[120]⟩ : ByteArray) ++ putText u).size = 1 + (putText u).size := by rw [ByteArray.size_append]; rfl
      have hat := hasAt_of ((⟨#[120]⟩ : ByteArray) ++ putText u) (encF 10 (foldN (u.size : Int))) u.toList [120] (by
        rw [tl_append, e, tl_append, tl (⟨#[120]⟩ : ByteArray)]
        unfold putNum
        rw [tl_nums]
        all_goals simp) (enc_bytes _ (by omega) (by omega))
      have hg := getnum_put _ (by omega) 1 (n := (u.size : Int)) (by omega) (by omega) hat (k := k) (by omega)
      rw [← putNum_size] at hg
      have hget : impl_GetText.f k ((⟨#[120]⟩ : ByteArray) ++ putText u) 1 = some (u, ((putText u).size : Int) + 1, 0) := by
        unfold impl_GetText.f
        rw [show ((1 : Nat) : Int) = 1 from rfl] at hg
        rw [hg]
        simp only [Option.bind_some, if_true]
        rw [in_is, Option.bind_some, if_pos (by simp only [decide_eq_true_eq]; omega)]
        have w3 : wrap64 (((1 + (putNum (u.size : Int)).size : Nat) : Int) + (u.size : Int)) = ((1 + (putText u).size : Nat) : Int) := by unfold wrap64; omega
        rw [w3, if_neg (by omega), if_pos (by omega), if_pos (by omega), if_pos (by omega)]
        have e5 : ((⟨#[120]⟩ : ByteArray) ++ putText u).extract (((1 + (putNum (u.size : Int)).size : Nat) : Int)).toNat ((((1 + (putText u).size : Nat) : Int))).toNat = u := by
          refine tl_inj ?_
          rw [Int.toNat_natCast, Int.toNat_natCast, tl_extract, tl_append, e, tl_append, tl (⟨#[120]⟩ : ByteArray), List.take_of_length_le]
          · rw [show ([120] : List UInt8) ++ ((putNum (u.size : Int)).toList ++ u.toList) = ([120] ++ (putNum (u.size : Int)).toList) ++ u.toList by simp]
            rw [List.drop_append_of_le_length (by simp [tl_length]; omega), List.drop_of_length_le (by simp [tl_length]; omega)]
            rfl
          · simp [tl_length, ByteArray.size_append]
            omega
        rw [e5]
        congr 3
        omega
      rw [hget]
      simp only [Option.bind_some]
      rw [if_pos (by simp), w2, if_pos (by omega), if_pos (by omega)]
      have e6 : (((putText u).size - 1 : Nat) : Int).toNat = (putText u).size - 1 := by omega
      rw [e6]
      -- what ends too early
      have hshort : ∃ x y, impl_GetText.f k ((putText u).extract 0 ((putText u).size - 1)) 0 = some (x, y, 4) := by
        unfold impl_GetText.f
        by_cases hz : u.size = 0
        · have e7 : (putText u).extract 0 ((putText u).size - 1) = (putNum (u.size : Int)).extract 0 ((putNum (u.size : Int)).size - 1) := by
            refine tl_inj ?_
            rw [tl_front, tl_front, e, tl_append]
            have : u.toList = [] := List.eq_nil_of_length_eq_zero (by rw [tl_length]; exact hz)
            rw [this, List.append_nil]
            rw [ByteArray.size_append, hz]
            rfl
          rw [e7, getnum_short (by omega) (by omega) (m := (putNum (u.size : Int)).size - 1) (by omega) (by omega)]
          exact ⟨_, _, rfl⟩
        · have hs2 : ((putText u).extract 0 ((putText u).size - 1)).size = (putText u).size - 1 := size_front _ _ (by omega)
          have hat2 := hasAt_of ((putText u).extract 0 ((putText u).size - 1)) (encF 10 (foldN (u.size : Int))) (u.toList.take (u.size - 1)) [] (by
            rw [tl_front, e, tl_append, ByteArray.size_append]
            have : (putNum (u.size : Int)).size + u.size - 1 = (putNum (u.size : Int)).toList.length + (u.size - 1) := by rw [tl_length]; omega
            rw [this, List.take_length_add_append]
            unfold putNum
            rw [tl_nums]
            simp) (enc_bytes _ (by omega) (by omega))
          have hg2 := getnum_put _ (by omega) 0 (n := (u.size : Int)) (by omega) (by omega) hat2 (k := k) (by omega)
          rw [← putNum_size] at hg2
          rw [show ((0 : Nat) : Int) = 0 from rfl] at hg2
          rw [hg2]
          simp only [Option.bind_some, if_true]
          rw [in_is, Option.bind_some, if_pos (by simp only [decide_eq_true_eq]; omega)]
          have w3 : wrap64 (((0 + (putNum (u.size : Int)).size : Nat) : Int) + (u.size : Int)) = ((putText u).size : Int) := by unfold wrap64; omega
          have q3 : ((putText u).size : Int) > (((putText u).extract 0 ((putText u).size - 1)).size : Int) := by rw [hs2]; clear hs2 w3 hg2 hat2; omega
          rw [w3, if_pos q3]
          exact ⟨_, _, rfl⟩
      obtain ⟨x, y, hxy⟩ := hshort
      rw [hxy]
      rfl
theorem FnNums : laws_FnNums.Pure := by
  intro l0 l1 _ h0 _ _ h1 _
  refine ⟨400, ?_⟩
  unfold laws_FnNums.f
  have j0t : ∀ b : Bool, laws_FnNums.j0 400 l0 l1 b = some true := by
    intro b
    simp only [laws_FnNums.j0]
    cases b with
    | true => simp
    | false =>
      rw [if_neg (by decide)]
      obtain ⟨n, hn, hn0, hn1⟩ := draw_num l0 (by omega) (k := 399) (by omega)
      obtain ⟨u, hu, hus⟩ := draw_text l1 (by omega) (k := 397) (by omega)
      have hle := putNum_le n
      have hpos : 0 < (putNum n).size := by rw [putNum_size]; exact encF_pos 10 (by omega) _
      rw [hn]
      simp only [Option.bind_some]
      rw [put_impl hn0 hn1 (by omega), put_spec hn0 hn1 (by omega)]
      simp only [Option.bind_some, if_true]
      rw [if_neg (by omega), decide_eq_false (by omega)]
      simp only [laws_FnNums.j1]
      rw [if_neg (by decide), if_pos (by omega), if_pos (by rw [ByteArray.size_append]; have : (⟨#[120, 121]⟩ : ByteArray).size = 2 := rfl; omega), num_back hn0 hn1 (by omega)]
      simp only [Option.bind_some]
      have w1 : wrap64 (((putNum n).size : Int) + 2) = ((2 + (putNum n).size : Nat) : Int) := by unfold wrap64; omega
      have w2 : wrap64 (((putNum n).size : Int) - 1) = (((putNum n).size - 1 : Nat) : Int) := by unfold wrap64; omega
      rw [w1, w2, if_neg (by simp), if_pos (by omega), if_pos (by omega)]
      have e6 : (((putNum n).size - 1 : Nat) : Int).toNat = (putNum n).size - 1 := by omega
      rw [e6, getnum_short hn0 hn1 (by omega) (by omega)]
      simp only [Option.bind_some]
      rw [show ((4 : Int) != 4) = false from rfl]
      simp only [laws_FnNums.j2]
      rw [if_neg (by decide), hu]
      simp only [Option.bind_some]
      rw [put_text_impl u hus (by omega), put_text_spec u hus (by omega)]
      simp only [Option.bind_some, if_true]
      exact j3_told u hus (by omega)
  split
  · exact j0t _
  · exact j0t _
end Go.Proofs.Ytnofenbhioepbaa.Pure
