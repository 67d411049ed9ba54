/- Plain: a stream is right by the program just where it is by the reference. -/
import Derived.Test.YtjchggdekbnmnaaDoorDomainFnExactStreamRight
set_option linter.unusedSimpArgs false
set_option linter.unusedVariables false
namespace Go.Proofs.YtjchggdekbnmnaaDoor.QFnExactStreamRight
open Go Go.RowKit Go.Proofs.YtjchggdekbnmnaaDoorW.PrintWords

/-- The place of the first such byte is none just where the text holds none. -/
theorem at_loop (a : ByteArray) (hs : a.size ≤ 1048576) (c : Int) : ∀ (k : Nat) (i : Nat), i ≤ a.size → a.size - i + 1 ≤ k →
    ∃ r : Int, spec_l03At.l0 k a c (i : Int) = some r ∧ (r ≥ 0 ↔ ∃ j : Nat, i ≤ j ∧ j < a.size ∧ bt a j = c)
  | 0, i, h1, h2 => by omega
  | k + 1, i, h1, h2 => by
    rw [spec_l03At.l0]
    by_cases hi : (i : Int) < (a.size : Int)
    · rw [if_pos hi, if_pos (by omega)]
      by_cases hc : bt a i = c
      · rw [if_pos hc]
        exact ⟨i, rfl, ⟨fun _ => ⟨i, Nat.le_refl _, by omega, hc⟩, fun _ => by omega⟩⟩
      · rw [if_neg hc, wrap64_at ((i : Int) + 1) (by omega), show ((i : Int) + 1) = ((i + 1 : Nat) : Int) by omega]
        obtain ⟨r, e, hr⟩ := at_loop a hs c k (i + 1) (by omega) (by omega)
        refine ⟨r, e, hr.trans ⟨fun ⟨j, h3, h4, h5⟩ => ⟨j, by omega, h4, h5⟩, fun ⟨j, h3, h4, h5⟩ => ⟨j, ?_, h4, h5⟩⟩⟩
        by_cases hj : j = i
        · subst hj; exact absurd h5 hc
        · omega
    · rw [if_neg hi]
      exact ⟨-1, rfl, ⟨fun h => absurd h (by decide), fun ⟨j, h3, h4, _⟩ => by omega⟩⟩

theorem has10 (a : ByteArray) : Lib.contains a.data.toList (⟨#[10]⟩ : ByteArray).data.toList = true ↔ ∃ j : Nat, 0 ≤ j ∧ j < a.size ∧ bt a j = 10 := by
  have hlen : a.data.toList.length = a.size := rfl
  unfold Lib.contains
  rw [show (⟨#[10]⟩ : ByteArray).data.toList = [10] from rfl, Lib.index_one, ← Lib.contains_iff_indexByte]
  rw [List.contains_iff_mem]
  constructor
  · intro h
    obtain ⟨n, hn, e⟩ := List.mem_iff_getElem.1 h
    exact ⟨n, Nat.zero_le _, by omega, by rw [bt_mem a n hn, e]; rfl⟩
  · rintro ⟨j, _, hj, hb⟩
    have hn : j < a.data.toList.length := by omega
    rw [bt_mem a j hn] at hb
    refine List.mem_iff_getElem.2 ⟨j, hn, UInt8.toNat_inj.1 ?_⟩
    have : (10 : UInt8).toNat = 10 := rfl
    omega

theorem head_alike (a b : ByteArray) (n : Int) (h1 : a.size ≤ 1048576) (h2 : b.size ≤ 1048576) (k : Nat) (hk : a.size + b.size + 20 ≤ k) :
    ∃ x : Bool, spec_l05Head.f k a b n = some x ∧ impl_headRight.f k a b n = some x := by
  obtain ⟨x1, e1, q1⟩ := spec_domain a h1 k (by omega)
  obtain ⟨x2, e2, q2⟩ := spec_domain b h2 k (by omega)
  obtain ⟨y1, f1, p1⟩ := impl_domain a h1 k (by omega)
  obtain ⟨y2, f2, p2⟩ := impl_domain b h2 k (by omega)
  have g1 : y1 = x1 := by rw [Bool.eq_iff_iff]; exact p1.trans q1.symm
  have g2 : y2 = x2 := by rw [Bool.eq_iff_iff]; exact p2.trans q2.symm
  subst g1 g2
  unfold spec_l05Head.f impl_headRight.f spec_l05Domain.f spec_l03Is.f impl_in.f
  rw [e1, e2, f1, f2]
  simp only [Option.bind_some]
  by_cases hn : n ≥ 1
  · rw [if_pos hn]
    cases y1 <;> cases y2 <;> simp
  · rw [if_neg hn]
    cases y1 <;> cases y2 <;> simp

theorem law_pure (a b : ByteArray) (n : Int) (c : ByteArray) (o cl de : Bool) (h1 : a.size ≤ maxLen) (h2 : b.size ≤ maxLen) (h3 : c.size ≤ maxLen) :
    ∃ k, laws_FnExactStreamRight.f k a b n c o cl de = some true := by
  have hm : maxLen = 9223372036854775807 := rfl
  unfold laws_FnExactStreamRight.f laws_szStream.f laws_szHead.f
  have w1 : wrap64 (1048576 - (a.size : Int)) = 1048576 - (a.size : Int) := wrap64_at _ (by omega)
  rw [w1]
  by_cases c1 : 1048576 - (a.size : Int) < 0
  · exact ⟨0, by rw [if_pos c1]; rfl⟩
  · rw [if_neg c1]
    have w2 : wrap64 (1048576 - (a.size : Int) - (b.size : Int)) = 1048576 - (a.size : Int) - (b.size : Int) := wrap64_at _ (by omega)
    rw [w2]
    by_cases c2 : 1048576 - (a.size : Int) - (b.size : Int) < 0
    · exact ⟨0, by rw [if_pos c2]; rfl⟩
    · rw [if_neg c2]
      simp only [Option.bind_some, if_neg c2]
      have w3 : wrap64 (1048576 - (a.size : Int) - (b.size : Int) - (c.size : Int)) = 1048576 - (a.size : Int) - (b.size : Int) - (c.size : Int) := wrap64_at _ (by omega)
      simp only [w3]
      by_cases c3 : 1048576 - (a.size : Int) - (b.size : Int) - (c.size : Int) < 0
      · exact ⟨0, by rw [if_pos c3]; rfl⟩
      · simp only [if_neg c3]
        simp only [Option.bind_some, if_neg c3]
        unfold laws_toStream.f laws_toHead.f
        simp only [Option.bind_some]
        have key : ∃ k x, spec_StreamRight.f k a b n c o cl de = some x ∧ impl_StreamRight.f k a b n c o cl de = some x := by
          refine ⟨a.size + b.size + c.size + 100, ?_⟩
          generalize hk : a.size + b.size + c.size + 100 = k
          obtain ⟨k', rfl⟩ : ∃ k', k = k' + 1 := ⟨k - 1, by omega⟩
          obtain ⟨x1, e1, f1⟩ := head_alike a b n (by omega) (by omega) k' (by omega)
          obtain ⟨x2, e2, f2⟩ := head_alike a b n (by omega) (by omega) (k' + 1) (by omega)
          obtain ⟨r, er, hr⟩ := at_loop c (by omega) 10 (k' + 1) 0 (by omega) (by omega)
          have hx : x1 = x2 := by
            have m1 := impl_headRight.mono a b n k' x1 f1
            rw [f2] at m1
            exact (Option.some.inj m1).symm
          subst hx
          have hj : ∀ q, spec_StreamRight.j0 (k' + 1) q a b n c o cl de = some (!q && (if o = true then x1 else (a.toList == ([] : List UInt8) && (b.toList == ([] : List UInt8) && (n == 0))))) := by
            intro q
            rw [spec_StreamRight.j0, e1]
            cases q <;> cases o <;> simp
          unfold spec_StreamRight.f impl_StreamRight.f spec_l03At.f strings_Contains.f
          simp only [hj, f2]
          rw [show (0 : Int) = ((0 : Nat) : Int) from rfl, er]
          by_cases d1 : (c.size : Int) > 4000
          · simp only [if_pos d1]; exact ⟨false, by simp, rfl⟩
          · simp only [if_neg d1, Option.bind_some, if_pos (show c.size < 4294967281 by omega)]
            have hc := hr.trans (has10 c).symm
            by_cases d2 : r ≥ 0
            · have d3 := hc.1 d2
              simp only [show (r ≥ ((0 : Nat) : Int)) from d2, if_true, d3]
              exact ⟨false, by simp, rfl⟩
            · have d3 : Lib.contains c.data.toList (⟨#[10]⟩ : ByteArray).data.toList = false := by
                rw [Bool.eq_false_iff]; exact fun h => d2 (hc.2 h)
              simp only [if_neg (show ¬ (r ≥ ((0 : Nat) : Int)) from d2), d3]
              generalize (a.toList == ([] : List UInt8) && (b.toList == ([] : List UInt8) && (n == 0))) = z
              by_cases d4 : c.toList = ([] : List UInt8)
              · simp only [d4]
                cases o <;> cases cl <;> cases de <;> cases x1 <;> cases z <;> simp
              · have d5 : (c.toList != ([] : List UInt8)) = true := by simpa using d4
                simp only [d5, if_neg d4]
                cases o <;> cases cl <;> cases de <;> cases x1 <;> cases z <;> simp
        obtain ⟨k, x, e1, e2⟩ := key
        refine ⟨k, ?_⟩
        rw [e1]
        simp only [Option.bind_some]
        rw [e2]
        simp
theorem law_walk (a b : ByteArray) (n : Int) (c : ByteArray) (o cl de : Bool) (h1 : a.size ≤ maxLen) (h2 : b.size ≤ maxLen) (h3 : c.size ≤ maxLen) (w : World) (hmx : MaxIs w) :
    Calls Tryd.prog 3 #[.agg #[.string a, .string b, .int .i64 n, .string c, .bool o, .bool cl, .bool de]] w fun e w' => e = .returned (.bool true) ∧ Below w.heap.size w w' := by
  obtain ⟨k, h⟩ := law_pure a b n c o cl de h1 h2 h3
  exact laws_FnExactStreamRight.calls k a b n c o cl de true w h rfl hmx
end Go.Proofs.YtjchggdekbnmnaaDoor.QFnExactStreamRight
