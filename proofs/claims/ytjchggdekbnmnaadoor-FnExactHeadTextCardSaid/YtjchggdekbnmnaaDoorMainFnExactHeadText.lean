/- Plain: a head's text is by the program what it is by the reference. -/
import Derived.Test.YtjchggdekbnmnaaDoorDomainFnExactHeadText
import Derived.Lib.ItoaNum
set_option linter.unusedSimpArgs false
set_option linter.unusedVariables false
namespace Go.Proofs.YtjchggdekbnmnaaDoor.QFnExactHeadText
open Go Go.RowKit Go.Proofs.YtjchggdekbnmnaaDoorW.PrintWords

theorem digit_one (x : Nat) : strOfNums ([(wrap64 (48 + (Int.tmod (x : Int) 10))) % 256] : List Int) = ⟨[UInt8.ofNat (48 + x % 10)].toArray⟩ := by
  have e : Int.tmod (x : Int) 10 = ((x % 10 : Nat) : Int) := by rw [Int.tmod_eq_emod_of_nonneg (by omega)]; omega
  rw [e, wrap64_at (48 + ((x % 10 : Nat) : Int)) (by omega), show (48 + ((x % 10 : Nat) : Int)) % 256 = ((48 + x % 10 : Nat) : Int) by omega]
  unfold strOfNums
  rw [List.map_cons, List.map_nil, Int.toNat_natCast]
theorem data_app (l : List UInt8) (b : UInt8) (acc : ByteArray) : (⟨l.toArray⟩ : ByteArray) ++ ((⟨[b].toArray⟩ : ByteArray) ++ acc) = (⟨(l ++ [b]).toArray⟩ : ByteArray) ++ acc := by
  rw [← ByteArray.append_assoc]
  congr 1
  first | done | (apply ByteArray.ext; rw [ByteArray.data_append]; simp)
theorem digits_small (x : Nat) (h : x < 10) : Lib.decDigits x = [UInt8.ofNat (48 + x % 10)] := by
  rw [Lib.decDigits, dif_pos h, Nat.mod_eq_of_lt h]
theorem digits_more (x : Nat) (h : ¬ x < 10) : Lib.decDigits x = Lib.decDigits (x / 10) ++ [UInt8.ofNat (48 + x % 10)] := by
  rw [Lib.decDigits, dif_neg h]
theorem dec_loop : ∀ (d x : Nat) (acc : ByteArray), 1 ≤ x → x < 10 ^ d → x ≤ 1000000000000 → acc.size + d ≤ 1000 →
    (Lib.decDigits x).length ≤ d ∧ ∀ K, d + 1 ≤ K → spec_l01Dec.l0 K (x : Int) false acc = some ((⟨(Lib.decDigits x).toArray⟩ : ByteArray) ++ acc)
  | 0, x, acc, h1, h2, h3, h4 => by
    have : x = 0 := by simpa using h2
    omega
  | d + 1, x, acc, h1, h2, h3, h4 => by
    have hx0 : ¬ ((x : Int) = 0) := by omega
    have ht : ¬ (Int.tmod (x : Int) 10 < 0) := by rw [Int.tmod_eq_emod_of_nonneg (by omega)]; omega
    have hw : wrap64 (Int.tdiv (x : Int) 10) = ((x / 10 : Nat) : Int) := by
      have e : Int.tdiv (x : Int) 10 = ((x / 10 : Nat) : Int) := by rw [Int.tdiv_eq_ediv_of_nonneg (by omega)]; omega
      rw [e]
      exact wrap64_at _ (by omega)
    have hsz : (⟨[UInt8.ofNat (48 + x % 10)].toArray⟩ : ByteArray).size = 1 := rfl
    have hsz2 : ((⟨[UInt8.ofNat (48 + x % 10)].toArray⟩ : ByteArray) ++ acc).size = 1 + acc.size := by rw [ByteArray.size_append, hsz]
    have step : ∀ K, spec_l01Dec.l0 (K + 1) (x : Int) false acc = spec_l01Dec.l0 K ((x / 10 : Nat) : Int) false ((⟨[UInt8.ofNat (48 + x % 10)].toArray⟩ : ByteArray) ++ acc) := fun K => by
      rw [spec_l01Dec.l0, if_neg hx0, if_neg ht, Option.bind_some, digit_one x, hw, if_pos (by omega)]
    by_cases hs : x < 10
    · have hx : x / 10 = 0 := by omega
      rw [digits_small x hs]
      refine ⟨by simp, fun K hK => ?_⟩
      obtain ⟨K, rfl⟩ : ∃ k, K = k + 2 := ⟨K - 2, by
        have : d ≠ 0 ∨ d = 0 := by omega
        rcases this with h | h
        · omega
        · subst h; omega⟩
      rw [step (K + 1), hx, spec_l01Dec.l0, if_pos (by decide), if_neg (by decide)]
    · have hd : d ≠ 0 := by
        intro h
        subst h
        simp at h2
        omega
      obtain ⟨hlen, hK⟩ := dec_loop d (x / 10) ((⟨[UInt8.ofNat (48 + x % 10)].toArray⟩ : ByteArray) ++ acc) (by omega) (by rw [Nat.pow_succ] at h2; omega) (by omega) (by omega)
      rw [digits_more x hs]
      refine ⟨by simp; omega, fun K hK' => ?_⟩
      obtain ⟨K, rfl⟩ : ∃ k, K = k + 1 := ⟨K - 1, by omega⟩
      rw [step K, hK K (by omega), data_app]
theorem dec_alike (n : Int) (h1 : 1 ≤ n) (h2 : n ≤ 1000000000) : (⟨(Lib.itoa n).toArray⟩ : ByteArray).size ≤ 20 ∧ impl_decimal.f n = some ⟨(Lib.itoa n).toArray⟩ ∧ ∀ K, 30 ≤ K → spec_l01Dec.f K n = some ⟨(Lib.itoa n).toArray⟩ := by
  obtain ⟨x, rfl⟩ : ∃ x : Nat, n = (x : Int) := ⟨n.toNat, by omega⟩
  have hi : Lib.itoa (x : Int) = Lib.decDigits x := by
    unfold Lib.itoa
    rw [if_neg (by omega), Int.toNat_natCast]
  have h20 : (10 : Nat) ^ 20 = 100000000000000000000 := by decide
  obtain ⟨hlen, hK⟩ := dec_loop 20 x (⟨#[]⟩ : ByteArray) (by omega) (by omega) (by omega) (by decide)
  rw [hi]
  refine ⟨?_, ?_, fun K h30 => ?_⟩
  · show (Lib.decDigits x).toArray.size ≤ 20
    simpa using hlen
  · unfold impl_decimal.f strconv_FormatInt.f
    rw [if_pos rfl, if_pos (by omega), if_pos (by omega), hi]
    rfl
  · unfold spec_l01Dec.f
    rw [if_neg (by omega), decide_eq_false (by omega), hK K (by omega)]
    exact congrArg some (ByteArray.append_empty)

theorem head_alike (a b : ByteArray) (n : Int) (h1 : a.size ≤ 1048576) (h2 : b.size ≤ 1048576) (k : Nat) (hk : a.size + b.size + 20 ≤ k) :
    ∃ x : Bool, spec_l05Head.f k a b n = some x ∧ impl_headRight.f k a b n = some x := by
  obtain ⟨x1, e1, q1⟩ := spec_domain a h1 k (by omega)
  obtain ⟨x2, e2, q2⟩ := spec_domain b h2 k (by omega)
  obtain ⟨y1, f1, p1⟩ := impl_domain a h1 k (by omega)
  obtain ⟨y2, f2, p2⟩ := impl_domain b h2 k (by omega)
  have g1 : y1 = x1 := by rw [Bool.eq_iff_iff]; exact p1.trans q1.symm
  have g2 : y2 = x2 := by rw [Bool.eq_iff_iff]; exact p2.trans q2.symm
  subst g1 g2
  unfold spec_l05Head.f impl_headRight.f spec_l05Domain.f spec_l03Is.f impl_in.f
  rw [e1, e2, f1, f2]
  simp only [Option.bind_some]
  by_cases hn : n ≥ 1
  · rw [if_pos hn]
    cases y1 <;> cases y2 <;> simp
  · rw [if_neg hn]
    cases y1 <;> cases y2 <;> simp

theorem text_alike (a b : ByteArray) (n : Int) (h1 : a.size ≤ 1048576) (h2 : b.size ≤ 1048576) (k : Nat) (hk : a.size + b.size + 40 ≤ k) :
    ∃ x : ByteArray, spec_HeadText.f k a b n = some x ∧ impl_HeadText.f k a b n = some x := by
  obtain ⟨q, e1, e2⟩ := head_alike a b n h1 h2 k (by omega)
  have hn : q = true → 1 ≤ n ∧ n ≤ 1000000000 := by
    intro hq
    subst hq
    unfold impl_headRight.f at e2
    cases hd1 : impl_isDomain.f k a with
    | none => rw [hd1] at e2; simp at e2
    | some x1 =>
      rw [hd1] at e2
      simp only [Option.bind_some] at e2
      cases x1 with
      | false => simp at e2
      | true =>
        simp only [if_true] at e2
        cases hd2 : impl_isDomain.f k b with
        | none => rw [hd2] at e2; simp at e2
        | some x2 =>
          rw [hd2] at e2
          simp only [Option.bind_some] at e2
          cases x2 with
          | false => simp at e2
          | true =>
            simp only [if_true] at e2
            unfold impl_in.f at e2
            by_cases c1 : n ≥ 1
            · rw [if_pos c1] at e2
              simp only [Option.bind_some] at e2
              exact ⟨c1, of_decide_eq_true (Option.some.inj e2)⟩
            · rw [if_neg c1] at e2
              simp at e2
  unfold spec_HeadText.f impl_HeadText.f
  rw [e1, e2]
  simp only [Option.bind_some]
  cases q with
  | false => exact ⟨_, rfl, rfl⟩
  | true =>
    obtain ⟨g1, g2⟩ := hn rfl
    obtain ⟨hs, hi, hd⟩ := dec_alike n g1 g2
    have hd' := hd k (by omega)
    unfold impl_Head_text.f
    rw [hi, hd']
    generalize (⟨(Lib.itoa n).toArray⟩ : ByteArray) = t at hs
    simp only [if_true, Option.bind_some]
    have s14 : (⟨#[60, 115, 116, 114, 101, 97, 109, 32, 102, 114, 111, 109, 61, 39]⟩ : ByteArray).size = 14 := rfl
    have s6a : (⟨#[39, 32, 116, 111, 61, 39]⟩ : ByteArray).size = 6 := rfl
    have s6b : (⟨#[39, 32, 105, 100, 61, 39]⟩ : ByteArray).size = 6 := rfl
    have z1 : 14 + a.size ≤ 9223372036854775807 := by omega
    have z2 : ((⟨#[60, 115, 116, 114, 101, 97, 109, 32, 102, 114, 111, 109, 61, 39]⟩ : ByteArray) ++ a).size + 6 ≤ 9223372036854775807 := by rw [ByteArray.size_append, s14]; omega
    have z3 : (((⟨#[60, 115, 116, 114, 101, 97, 109, 32, 102, 114, 111, 109, 61, 39]⟩ : ByteArray) ++ a) ++ (⟨#[39, 32, 116, 111, 61, 39]⟩ : ByteArray)).size + b.size ≤ 9223372036854775807 := by rw [ByteArray.size_append, ByteArray.size_append, s14, s6a]; omega
    have z4 : ((((⟨#[60, 115, 116, 114, 101, 97, 109, 32, 102, 114, 111, 109, 61, 39]⟩ : ByteArray) ++ a) ++ (⟨#[39, 32, 116, 111, 61, 39]⟩ : ByteArray)) ++ b).size + 6 ≤ 9223372036854775807 := by rw [ByteArray.size_append, ByteArray.size_append, ByteArray.size_append, s14, s6a]; omega
    have z5 : (((((⟨#[60, 115, 116, 114, 101, 97, 109, 32, 102, 114, 111, 109, 61, 39]⟩ : ByteArray) ++ a) ++ (⟨#[39, 32, 116, 111, 61, 39]⟩ : ByteArray)) ++ b) ++ (⟨#[39, 32, 105, 100, 61, 39]⟩ : ByteArray)).size + t.size ≤ 9223372036854775807 := by rw [ByteArray.size_append, ByteArray.size_append, ByteArray.size_append, ByteArray.size_append, s14, s6a, s6b]; omega
    have z6 : ((((((⟨#[60, 115, 116, 114, 101, 97, 109, 32, 102, 114, 111, 109, 61, 39]⟩ : ByteArray) ++ a) ++ (⟨#[39, 32, 116, 111, 61, 39]⟩ : ByteArray)) ++ b) ++ (⟨#[39, 32, 105, 100, 61, 39]⟩ : ByteArray)) ++ t).size + 2 ≤ 9223372036854775807 := by rw [ByteArray.size_append, ByteArray.size_append, ByteArray.size_append, ByteArray.size_append, ByteArray.size_append, s14, s6a, s6b]; omega
    rw [if_pos z1, if_pos z2, if_pos z3, if_pos z4, if_pos z5, if_pos z6]
    exact ⟨_, rfl, rfl⟩
theorem law_pure (a b : ByteArray) (n : Int) (h1 : a.size ≤ maxLen) (h2 : b.size ≤ maxLen) :
    ∃ k, laws_FnExactHeadText.f k a b n = some true := by
  have hm : maxLen = 9223372036854775807 := rfl
  unfold laws_FnExactHeadText.f laws_szHead.f
  have w1 : wrap64 (1048576 - (a.size : Int)) = 1048576 - (a.size : Int) := wrap64_at _ (by omega)
  rw [w1]
  by_cases c1 : 1048576 - (a.size : Int) < 0
  · exact ⟨0, by rw [if_pos c1]; rfl⟩
  · rw [if_neg c1]
    have w2 : wrap64 (1048576 - (a.size : Int) - (b.size : Int)) = 1048576 - (a.size : Int) - (b.size : Int) := wrap64_at _ (by omega)
    rw [w2]
    by_cases c2 : 1048576 - (a.size : Int) - (b.size : Int) < 0
    · exact ⟨0, by rw [if_pos c2]; rfl⟩
    · rw [if_neg c2]
      simp only [Option.bind_some, if_neg c2]
      obtain ⟨x, e1, e2⟩ := text_alike a b n (by omega) (by omega) (a.size + b.size + 40) (Nat.le_refl _)
      refine ⟨a.size + b.size + 40, ?_⟩
      unfold laws_toHead.f
      simp only [Option.bind_some]
      rw [e1]
      simp only [Option.bind_some]
      rw [e2]
      simp only [Option.bind_some, if_true]
theorem law_walk (a b : ByteArray) (n : Int) (h1 : a.size ≤ maxLen) (h2 : b.size ≤ maxLen) (w : World) (hmx : MaxIs w) :
    Calls Tryd.prog 6 #[.agg #[.string a, .string b, .int .i64 n]] w fun e w' => e = .returned (.bool true) ∧ Below w.heap.size w w' := by
  obtain ⟨k, h⟩ := law_pure a b n h1 h2
  exact laws_FnExactHeadText.calls k a b n true w h rfl hmx
end Go.Proofs.YtjchggdekbnmnaaDoor.QFnExactHeadText
