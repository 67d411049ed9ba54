/- Plain: the law of DbResult. -/
import Derived.Test.YtjchggdekbnmnaaDoorMarkFnExactDbResult
import Derived.Test.YtjchggdekbnmnaaDoorPlaceFnExactDbResult
set_option linter.unusedSimpArgs false
set_option linter.unusedVariables false
namespace Go.Proofs.YtjchggdekbnmnaaDoor.QFnExactDbResult
open Go Go.RowKit Go.Proofs.YtjchggdekbnmnaaDoorW.PrintWords
theorem long_one (s : ByteArray) (k : Nat) : impl_long.f (k + 2) [s] = some (decide ((s.size : Int) > 20000)) := by
  unfold impl_long.f
  have h0 : rdOf ByteArray.empty [s] 0 = s := rfl
  have h1 : (0 : Int) < (([s] : List ByteArray).length : Int) := by simp
  rw [impl_long.l0, if_pos h1, if_pos (Int.le_refl 0), if_pos h1, h0]
  by_cases c : (s.size : Int) > 20000
  · rw [if_pos c, decide_eq_true c]
  · have h2 : ¬ (wrap64 (0 + 1) < (([s] : List ByteArray).length : Int)) := by
      rw [wrap64_at (0 + 1) (by omega)]
      simp
    rw [if_neg c, decide_eq_false c, impl_long.l0, if_neg h2]
theorem nil_iff (s : ByteArray) : s.toList = [] ↔ s.size = 0 := by
  rw [toList_data]
  constructor
  · intro h
    have h2 : s.data.toList.length = 0 := by rw [h]; rfl
    exact h2
  · intro h
    have h2 : s.data.toList.length = 0 := h
    exact List.length_eq_zero_iff.1 h2
theorem result_alike (a : ByteArray) (n : Int) (L : List S71) (id : Int) (s : ByteArray) (ha : a.size ≤ 1048576) (hL : ∀ x ∈ L, x.f0.size ≤ 1048576) (hlen : L.length ≤ 1048576) (k : Nat) (hk : 2 * L.length + a.size + 1048700 ≤ k) :
    ∃ (o1 : ByteArray) (o2 : Int) (o3 : List S71) (o4 o5 : Int), spec_DbResult.f k a n L id s = some (o1, o2, o3, o4, o5) ∧ impl_DbResult.f k a n L id s = some (o1, o2, o3, o4, o5) ∧ o3.length ≤ 1048577 := by
  obtain ⟨b, e1, e2⟩ := right_alike a n L ha hL hlen k hk
  obtain ⟨p, f1, f2, hp⟩ := peer_alike id a n L hlen k (by omega)
  obtain ⟨k, rfl⟩ : ∃ k', k = k' + 2 := ⟨k - 2, by omega⟩
  unfold spec_DbResult.f impl_DbResult.f
  rw [long_one s k, f2]
  simp only [Option.bind_some]
  by_cases c : (s.size : Int) > 20000
  · rw [if_pos c, decide_eq_true c]
    simp only [if_true]
    exact ⟨_, _, _, _, _, rfl, rfl, by simp⟩
  · rw [if_neg c, decide_eq_false c]
    simp only [Bool.false_eq_true, if_false]
    rw [e1, e2]
    simp only [Option.bind_some]
    cases b with
    | false =>
      simp only [Bool.false_eq_true, if_false]
      exact ⟨_, _, _, _, _, rfl, rfl, by simp⟩
    | true =>
      simp only [if_true]
      rw [f1]
      simp only [Option.bind_some]
      rcases hp with hp | ⟨hp0, hp1⟩
      · simp only [if_pos hp]; exact ⟨_, _, _, _, _, rfl, rfl, by simp⟩
      · have hpn : ¬ p < 0 := by omega
        simp only [if_neg hpn]
        by_cases c0 : s.size = 0
        · have hi : impl_in.f (s.size : Int) 1 64 = some false := by unfold impl_in.f; rw [if_neg (by omega)]
          rw [if_pos ((nil_iff s).2 c0), spec_DbResult.j0, hi]
          exact ⟨_, _, _, _, _, rfl, rfl, by simp⟩
        · rw [if_neg (fun h => c0 ((nil_iff s).1 h)), spec_DbResult.j0]
          by_cases c1 : (s.size : Int) > 64
          · have hi : impl_in.f (s.size : Int) 1 64 = some false := by unfold impl_in.f; rw [if_pos (by omega), decide_eq_false (by omega)]
            rw [hi, decide_eq_true c1]
            exact ⟨_, _, _, _, _, rfl, rfl, by simp⟩
          · have hi : impl_in.f (s.size : Int) 1 64 = some true := by unfold impl_in.f; rw [if_pos (by omega), decide_eq_true (by omega)]
            rw [hi, decide_eq_false c1]
            simp only [Option.bind_some, Bool.false_eq_true, if_false, if_true, if_pos hp0, if_pos hp1]
            by_cases c2 : (rd_T71 L p).f2 = 0
            · simp only [if_pos c2]
              have hlim : L.length < 2932031007402 := by omega
              have hc1 : spec_l06Copy.f a n L = some (a, n, L) := by unfold spec_l06Copy.f; simp [hlim]
              have hc2 : impl_cloneDialback.f a n L = some (a, n, L) := by unfold impl_cloneDialback.f impl_Peer.f; simp [hlim]
              rw [hc1, hc2]
              obtain ⟨m, rfl⟩ : ∃ m : Nat, p = (m : Int) := ⟨p.toNat, by omega⟩
              have hm : m < L.length := by omega
              have rs : ∀ (x : S71), rd_T71 (L.set m x) (m : Int) = x := fun x => by
                rw [rd71 _ m (by rw [List.length_set]; exact hm), List.getElem_set_self]
              simp only [Option.bind_some, if_pos hp1, Int.toNat_natCast, rs, List.set_set]
              exact ⟨_, _, _, _, _, rfl, rfl, by simp only [List.length_set]; omega⟩
            · simp only [if_neg c2]; exact ⟨_, _, _, _, _, rfl, rfl, by simp⟩
theorem law_pure (a : ByteArray) (n : Int) (l : List S97) (id : Int) (s : ByteArray) (ha : a.size ≤ maxLen) (hl : l.length ≤ maxLen) (hz : ∀ x ∈ l, x.f0.size ≤ maxLen ∧ x.f3.size ≤ maxLen) :
    ∃ k, laws_FnExactDbResult.f k a n l id s = some true := by
  refine ⟨2 * l.length + a.size + 3048700 + 1, ?_⟩
  generalize hk : 2 * l.length + a.size + 3048700 = k
  obtain ⟨r, e, hr⟩ := sz_all a n l ha hl hz (k + 1) (by omega)
  unfold laws_FnExactDbResult.f
  by_cases c0 : (s.size : Int) > 1048576
  · rw [if_pos c0]
  rw [if_neg c0, e]
  simp only [Option.bind_some]
  by_cases c : r < 0
  · rw [if_pos c]
  · rw [if_neg c]
    obtain ⟨h1, h2, h3⟩ := hr (by omega)
    have hlen : (l.map toP).length = l.length := List.length_map _
    obtain ⟨o1, o2, o3, o4, o5, hs, hi, ho⟩ := result_alike a n (l.map toP) id s h1 (fun x hx => by
      obtain ⟨y, hy, rfl⟩ := List.mem_map.1 hx
      exact (h3 y hy).1) (by omega) k (by omega)
    have hs' := spec_DbResult.mono _ _ _ _ _ k _ hs
    have hi' := impl_DbResult.mono _ _ _ _ _ k _ hi
    obtain ⟨m1, l1, hm1⟩ := marked (l.map toP) (by omega)
    obtain ⟨m2, l2, hm2⟩ := marked o3 (by omega)
    have hmd : laws_markDialback.f (k + 1) a n (l.map toP) 1 = some ((m1 : Int), l1) := by
      unfold laws_markDialback.f; rw [(hm1 (k + 1) (by omega)).1]; rfl
    have hmo : laws_markDialbackOut.f k o1 o2 o3 o4 o5 1 = some ((m2 : Int), l2) := by
      unfold laws_markDialbackOut.f laws_markDialback.f; rw [(hm2 k (by omega)).1]; rfl
    have hho : laws_heldDialbackOut.f k o1 o2 l2 o4 o5 1 = some (m2 : Int) := by
      unfold laws_heldDialbackOut.f laws_heldDialback.f; rw [(hm2 k (by omega)).2]
      simp only [Option.bind_some]
      rw [if_neg (by omega)]
      simp only [Option.bind_some]
      rw [if_neg (by omega)]
    have ht1 := to_all a n l h2 (k + 1) (by omega)
    have ht0 := to_all a n l h2 k (by omega)
    have q1 := eq_out o1 o2 o3 o4 o5 ho (k + 1) (by omega)
    have q0 := eq_out o1 o2 o3 o4 o5 ho k (by omega)
    have q2 := eq_all a n (l.map toP) (by omega) (k + 1) (by omega)
    have hm2n : ¬ ((m2 : Int) < 0) := by omega
    have hm1n : ¬ ((m1 : Int) < 0) := by omega
    have hj : laws_FnExactDbResult.j0 (k + 1) id s false a n l o1 o2 o3 o4 o5 o1 o2 o3 o4 o5 = some true := by
      rw [laws_FnExactDbResult.j0]
      refine (if_neg (by decide)).trans ?_
      refine bs hmo ?_
      refine bs hho ?_
      refine (if_neg hm2n).trans ?_
      refine (if_pos rfl).trans ?_
      refine bs ht0 ?_
      refine bs hi ?_
      refine bs q0 ?_
      refine it ?_
      refine bs hho ?_
      refine (if_neg hm2n).trans ?_
      exact if_pos rfl
    refine bs ht1 ?_
    refine bs hs' ?_
    refine bs ht1 ?_
    refine bs hi' ?_
    refine bs q1 ?_
    refine it ?_
    refine bs ht1 ?_
    refine bs q2 ?_
    refine it ?_
    refine bs hmd ?_
    refine (if_neg hm1n).trans ?_
    refine bs q1 ?_
    exact hj
theorem law_walk (a : ByteArray) (n : Int) (A : Option Addr) (c : Nat) (l : List S97) (id : Int) (s : ByteArray) (ha : a.size ≤ maxLen) (hc : l.length ≤ c) (hl : l.length ≤ maxLen) (hz : ∀ x ∈ l, x.f0.size ≤ maxLen ∧ x.f3.size ≤ maxLen) (w : World) (hr : Kd.C k97 w A l.length l) (hmx : MaxIs w) :
    Calls Tryd.prog 9 #[.agg #[.string a, .int .i64 n, .slice A l.length c], .int .i64 id, .string s] w fun e w' => e = .returned (.bool true) ∧ Below w.heap.size w w' := by
  obtain ⟨k, h⟩ := law_pure a n l id s ha hl hz
  exact laws_FnExactDbResult.calls k a n A c l id s true w hr hc h rfl hmx
end Go.Proofs.YtjchggdekbnmnaaDoor.QFnExactDbResult
