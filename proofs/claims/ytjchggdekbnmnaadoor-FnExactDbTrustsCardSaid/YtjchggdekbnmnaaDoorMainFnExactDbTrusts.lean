/- Plain: the law of DbTrusts. -/
import Derived.Test.YtjchggdekbnmnaaDoorRightFnExactDbTrusts
set_option linter.unusedSimpArgs false
set_option linter.unusedVariables false
namespace Go.Proofs.YtjchggdekbnmnaaDoor.QFnExactDbTrusts
open Go Go.RowKit Go.Proofs.YtjchggdekbnmnaaDoorW.PrintWords
theorem trusts_alike (a : ByteArray) (n : Int) (L : List S71) (s : ByteArray) (id : Int) (ha : a.size ≤ 1048576) (hL : ∀ x ∈ L, x.f0.size ≤ 1048576) (hlen : L.length ≤ 1048576) (k : Nat) (hk : 2 * L.length + a.size + 1048700 ≤ k) :
    ∃ b : Bool, spec_DbTrusts.f k a n L s id = some b ∧ impl_DbTrusts.f k a n L s id = some b := by
  obtain ⟨b, e1, e2⟩ := right_alike a n L ha hL hlen k hk
  obtain ⟨p, f1, f2, hp⟩ := peer_alike id a n L hlen k (by omega)
  have hfacts := right_facts a n L hlen k
  unfold spec_DbTrusts.f impl_DbTrusts.f
  rw [f2, e2]
  simp only [Option.bind_some]
  by_cases c : (s.size : Int) > 20000
  · rw [if_pos c]
    refine ⟨false, rfl, ?_⟩
    cases b with
    | false => rfl
    | true =>
      obtain ⟨_, _, _, h30⟩ := hfacts e1
      rw [if_pos rfl]
      rcases hp with hp | ⟨hp0, hp1⟩
      · rw [if_neg (by omega)]
      · obtain ⟨m, rfl⟩ : ∃ m : Nat, p = (m : Int) := ⟨p.toNat, by omega⟩
        have hm : m < L.length := by omega
        rw [if_pos (by omega), if_pos hp0, if_pos hp1, rd71 L m hm, if_neg ?_]
        intro he
        have := bytes_eq he
        have h1 := h30 _ (List.getElem_mem hm)
        rw [this] at h1
        omega
  · rw [if_neg c, e1]
    simp only [Option.bind_some]
    cases b with
    | false => exact ⟨false, rfl, rfl⟩
    | true =>
      rw [if_pos rfl, if_pos rfl, f1]
      simp only [Option.bind_some]
      rcases hp with hp | ⟨hp0, hp1⟩
      · rw [if_neg (by omega)]; exact ⟨false, rfl, rfl⟩
      · rw [if_pos (by omega), if_pos hp0, if_pos hp1]
        by_cases c2 : (rd_T71 L p).f0.toList = s.toList
        · rw [if_pos c2]; exact ⟨_, rfl, rfl⟩
        · rw [if_neg c2]; exact ⟨_, rfl, rfl⟩
theorem law_pure (a : ByteArray) (n : Int) (l : List S97) (s : ByteArray) (id : Int) (ha : a.size ≤ maxLen) (hl : l.length ≤ maxLen) (hz : ∀ x ∈ l, x.f0.size ≤ maxLen ∧ x.f3.size ≤ maxLen) :
    ∃ k, laws_FnExactDbTrusts.f k a n l s id = some true := by
  refine ⟨2 * l.length + a.size + 1048700, ?_⟩
  generalize hk : 2 * l.length + a.size + 1048700 = k
  obtain ⟨r, e, hr⟩ := sz_all a n l ha hl hz k (by omega)
  unfold laws_FnExactDbTrusts.f
  by_cases c0 : (s.size : Int) > 1048576
  · rw [if_pos c0]
  rw [if_neg c0, e]
  simp only [Option.bind_some]
  by_cases c : r < 0
  · rw [if_pos c]
  · rw [if_neg c]
    obtain ⟨h1, h2, h3⟩ := hr (by omega)
    have hlen : (l.map toP).length = l.length := List.length_map _
    obtain ⟨b, e1, e2⟩ := trusts_alike a n (l.map toP) s id h1 (fun x hx => by
      obtain ⟨y, hy, rfl⟩ := List.mem_map.1 hx
      exact (h3 y hy).1) (by omega) k (by omega)
    rw [to_all a n l h2 k (by omega)]
    simp only [Option.bind_some]
    rw [e1]
    simp only [Option.bind_some]
    rw [e2]
    simp only [Option.bind_some]
    rw [eq_all a n (l.map toP) (by omega) k (by omega)]
    simp
theorem law_walk (a : ByteArray) (n : Int) (A : Option Addr) (c : Nat) (l : List S97) (s : ByteArray) (id : Int) (ha : a.size ≤ maxLen) (hc : l.length ≤ c) (hl : l.length ≤ maxLen) (hz : ∀ x ∈ l, x.f0.size ≤ maxLen ∧ x.f3.size ≤ maxLen) (w : World) (hr : Kd.C k97 w A l.length l) (hmx : MaxIs w) :
    Calls Tryd.prog 5 #[.agg #[.string a, .int .i64 n, .slice A l.length c], .string s, .int .i64 id] w fun e w' => e = .returned (.bool true) ∧ Below w.heap.size w w' := by
  obtain ⟨k, h⟩ := law_pure a n l s id ha hl hz
  exact laws_FnExactDbTrusts.calls k a n A c l s id true w hr hc h rfl hmx
end Go.Proofs.YtjchggdekbnmnaaDoor.QFnExactDbTrusts
