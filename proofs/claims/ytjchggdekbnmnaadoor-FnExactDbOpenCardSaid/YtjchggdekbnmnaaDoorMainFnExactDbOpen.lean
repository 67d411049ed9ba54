/- Plain: the law of DbOpen. -/
import Derived.Test.YtjchggdekbnmnaaDoorMarkFnExactDbOpen
import Derived.Test.YtjchggdekbnmnaaDoorRightFnExactDbOpen
set_option linter.unusedSimpArgs false
set_option linter.unusedVariables false
namespace Go.Proofs.YtjchggdekbnmnaaDoor.QFnExactDbOpen
open Go Go.RowKit Go.Proofs.YtjchggdekbnmnaaDoorW.PrintWords
theorem long_one (s : ByteArray) (k : Nat) : impl_long.f (k + 2) [s] = some (decide ((s.size : Int) > 20000)) := by
  unfold impl_long.f
  have h0 : rdOf ByteArray.empty [s] 0 = s := rfl
  have h1 : (0 : Int) < (([s] : List ByteArray).length : Int) := by simp
  rw [impl_long.l0, if_pos h1, if_pos (Int.le_refl 0), if_pos h1, h0]
  by_cases c : (s.size : Int) > 20000
  · rw [if_pos c, decide_eq_true c]
  · have h2 : ¬ (wrap64 (0 + 1) < (([s] : List ByteArray).length : Int)) := by
      rw [wrap64_at (0 + 1) (by omega)]
      simp
    rw [if_neg c, decide_eq_false c, impl_long.l0, if_neg h2]
theorem open_alike (a : ByteArray) (n : Int) (L : List S71) (s : ByteArray) (ha : a.size ≤ 1048576) (hL : ∀ x ∈ L, x.f0.size ≤ 1048576) (hlen : L.length ≤ 1048576) (k : Nat) (hk : 2 * L.length + a.size + 1048700 ≤ k) :
    ∃ (o1 : ByteArray) (o2 : Int) (o3 : List S71) (o4 o5 : Int), spec_DbOpen.f k a n L s = some (o1, o2, o3, o4, o5) ∧ impl_DbOpen.f k a n L s = some (o1, o2, o3, o4, o5) ∧ o3.length ≤ 1048577 := by
  obtain ⟨b, e1, e2⟩ := right_alike a n L ha hL hlen k hk
  have hfacts := right_facts a n L hlen k
  obtain ⟨k, rfl⟩ : ∃ k', k = k' + 2 := ⟨k - 2, by omega⟩
  unfold spec_DbOpen.f impl_DbOpen.f
  rw [long_one s k, e1, e2]
  simp only [Option.bind_some]
  by_cases c : (s.size : Int) > 20000
  · rw [if_pos c, if_pos (decide_eq_true c)]
    exact ⟨_, _, _, _, _, rfl, rfl, by simp⟩
  · rw [if_neg c, decide_eq_false c]
    simp only [Bool.false_eq_true, if_false]
    have hbad : ∃ (o1 : ByteArray) (o2 : Int) (o3 : List S71) (o4 o5 : Int), spec_DbOpen.j0 (k + 2) s true a n L = some (o1, o2, o3, o4, o5) ∧ impl_DbOpen.j0 (k + 2) s true a n L = some (o1, o2, o3, o4, o5) ∧ o3.length ≤ 1048577 := by
      rw [spec_DbOpen.j0, impl_DbOpen.j0, if_pos rfl, if_pos rfl]
      exact ⟨_, _, _, _, _, rfl, rfl, by simp⟩
    cases b with
    | false =>
      simp only [if_neg (show ¬ (false = true) by decide)]
      exact hbad
    | true =>
      simp only [if_true]
      obtain ⟨q, f1, f2⟩ := dom_alike s (by omega) (k + 2) (k + 2) (by omega) (by omega)
      rw [f1, f2]
      simp only [Option.bind_some]
      obtain ⟨h10, hn1, hn2, _⟩ := hfacts e1
      cases q with
      | false => exact hbad
      | true =>
        simp only [Bool.not_true, spec_DbOpen.j0, impl_DbOpen.j0, Bool.false_eq_true, if_false]
        by_cases cl : (L.length : Int) = 10
        · have hge : (L.length : Int) ≥ 10 := by omega
          simp only [if_pos cl, if_pos hge, spec_DbOpen.j1, if_true]
          exact ⟨_, _, _, _, _, rfl, rfl, by simp⟩
        · have hge : ¬ ((L.length : Int) ≥ 10) := by omega
          by_cases cn : n = 1000000000
          · have cg : n ≥ 1000000000 := by omega
            simp only [if_neg cl, if_neg hge, spec_DbOpen.j1, if_pos cn, decide_eq_true cg, if_true]
            exact ⟨_, _, _, _, _, rfl, rfl, by simp⟩
          · have cg : ¬ (n ≥ 1000000000) := by omega
            have hlim : L.length < 2932031007402 := by omega
            have hc1 : spec_l06Copy.f a n L = some (a, n, L) := by unfold spec_l06Copy.f; simp [hlim]
            have hc2 : impl_cloneDialback.f a n L = some (a, n, L) := by unfold impl_cloneDialback.f impl_Peer.f; simp [hlim]
            simp only [if_neg cl, if_neg hge, spec_DbOpen.j1, if_neg cn, decide_eq_false cg, Bool.false_eq_true, if_false, hc1, hc2, Option.bind_some, if_pos hlim]
            exact ⟨_, _, _, _, _, rfl, rfl, by simp only [List.length_append, List.length_cons, List.length_nil]; omega⟩
theorem law_pure (a : ByteArray) (n : Int) (l : List S97) (s : ByteArray) (ha : a.size ≤ maxLen) (hl : l.length ≤ maxLen) (hz : ∀ x ∈ l, x.f0.size ≤ maxLen ∧ x.f3.size ≤ maxLen) :
    ∃ k, laws_FnExactDbOpen.f k a n l s = some true := by
  refine ⟨2 * l.length + a.size + 3048700 + 1, ?_⟩
  generalize hk : 2 * l.length + a.size + 3048700 = k
  obtain ⟨r, e, hr⟩ := sz_all a n l ha hl hz (k + 1) (by omega)
  unfold laws_FnExactDbOpen.f
  by_cases c0 : (s.size : Int) > 1048576
  · rw [if_pos c0]
  rw [if_neg c0, e]
  simp only [Option.bind_some]
  by_cases c : r < 0
  · rw [if_pos c]
  · rw [if_neg c]
    obtain ⟨h1, h2, h3⟩ := hr (by omega)
    have hlen : (l.map toP).length = l.length := List.length_map _
    obtain ⟨o1, o2, o3, o4, o5, hs, hi, ho⟩ := open_alike a n (l.map toP) s h1 (fun x hx => by
      obtain ⟨y, hy, rfl⟩ := List.mem_map.1 hx
      exact (h3 y hy).1) (by omega) k (by omega)
    have hs' := spec_DbOpen.mono _ _ _ _ k _ hs
    have hi' := impl_DbOpen.mono _ _ _ _ k _ hi
    obtain ⟨m1, l1, hm1⟩ := marked (l.map toP) (by omega)
    obtain ⟨m2, l2, hm2⟩ := marked o3 (by omega)
    have hmd : laws_markDialback.f (k + 1) a n (l.map toP) 1 = some ((m1 : Int), l1) := by
      unfold laws_markDialback.f; rw [(hm1 (k + 1) (by omega)).1]; rfl
    have hmo : laws_markDialbackOut.f k o1 o2 o3 o4 o5 1 = some ((m2 : Int), l2) := by
      unfold laws_markDialbackOut.f laws_markDialback.f; rw [(hm2 k (by omega)).1]; rfl
    have hho : laws_heldDialbackOut.f k o1 o2 l2 o4 o5 1 = some (m2 : Int) := by
      unfold laws_heldDialbackOut.f laws_heldDialback.f; rw [(hm2 k (by omega)).2]
      simp only [Option.bind_some]
      rw [if_neg (by omega)]
      simp only [Option.bind_some]
      rw [if_neg (by omega)]
    have ht1 := to_all a n l h2 (k + 1) (by omega)
    have ht0 := to_all a n l h2 k (by omega)
    have q1 := eq_out o1 o2 o3 o4 o5 ho (k + 1) (by omega)
    have q0 := eq_out o1 o2 o3 o4 o5 ho k (by omega)
    have q2 := eq_all a n (l.map toP) (by omega) (k + 1) (by omega)
    have hm2n : ¬ ((m2 : Int) < 0) := by omega
    have hm1n : ¬ ((m1 : Int) < 0) := by omega
    have hj : laws_FnExactDbOpen.j0 (k + 1) s false a n l o1 o2 o3 o4 o5 o1 o2 o3 o4 o5 = some true := by
      rw [laws_FnExactDbOpen.j0]
      refine (if_neg (by decide)).trans ?_
      refine bs hmo ?_
      refine bs hho ?_
      refine (if_neg hm2n).trans ?_
      refine (if_pos rfl).trans ?_
      refine bs ht0 ?_
      refine bs hi ?_
      refine bs q0 ?_
      refine it ?_
      refine bs hho ?_
      refine (if_neg hm2n).trans ?_
      exact if_pos rfl
    refine bs ht1 ?_
    refine bs hs' ?_
    refine bs ht1 ?_
    refine bs hi' ?_
    refine bs q1 ?_
    refine it ?_
    refine bs ht1 ?_
    refine bs q2 ?_
    refine it ?_
    refine bs hmd ?_
    refine (if_neg hm1n).trans ?_
    refine bs q1 ?_
    exact hj
theorem law_walk (a : ByteArray) (n : Int) (A : Option Addr) (c : Nat) (l : List S97) (s : ByteArray) (ha : a.size ≤ maxLen) (hc : l.length ≤ c) (hl : l.length ≤ maxLen) (hz : ∀ x ∈ l, x.f0.size ≤ maxLen ∧ x.f3.size ≤ maxLen) (w : World) (hr : Kd.C k97 w A l.length l) (hmx : MaxIs w) :
    Calls Tryd.prog 7 #[.agg #[.string a, .int .i64 n, .slice A l.length c], .string s] w fun e w' => e = .returned (.bool true) ∧ Below w.heap.size w w' := by
  obtain ⟨k, h⟩ := law_pure a n l s ha hl hz
  exact laws_FnExactDbOpen.calls k a n A c l s true w hr hc h rfl hmx
end Go.Proofs.YtjchggdekbnmnaaDoor.QFnExactDbOpen
