/- Plain: the law of RosterFollow answers true at every two rosters. -/
import Derived.Test.YtgfmapilimlamaaRosterPure
import Derived.Test.YtgfmapilimlamaaQFnExactRosterFollowx7
set_option linter.unusedSimpArgs false
set_option linter.unusedVariables false
namespace Go.Proofs.Ytgfmapilimlamaa.QFnExactRosterFollow
open Go Go.RowKit Go.Proofs.YtgfmapilimlamaaW.PrintWords

def toI (x : S32) : S33 := ⟨x.f0, x.f1, x.f2, x.f3, x.f4⟩
theorem rd32 (l : List S32) (i : Nat) (h : i < l.length) : rd_T32 l (i : Int) = l[i] := by
  unfold rd_T32
  rw [Int.toNat_natCast, List.getD_eq_getElem?_getD, List.getElem?_eq_getElem h]
  rfl
/-! ### the size -/
theorem sz_one (x : S32) (m : Int) (h0 : 0 ≤ m) (h1 : m ≤ 1048576) (hx : x.f0.size ≤ maxLen ∧ x.f1.size ≤ maxLen ∧ x.f2.size ≤ maxLen) :
    ∃ r : Int, laws_szItem.f x.f0 x.f1 x.f2 x.f3 x.f4 m = some r ∧ r ≤ 1048576 := by
  have hm : maxLen = 9223372036854775807 := rfl
  unfold laws_szItem.f
  rw [wrap64_at (m - (x.f0.size : Int)) (by omega)]
  by_cases c1 : m - (x.f0.size : Int) < 0
  · rw [if_pos c1]; exact ⟨-1, rfl, by decide⟩
  · rw [if_neg c1, wrap64_at (m - (x.f0.size : Int) - (x.f1.size : Int)) (by omega)]
    by_cases c2 : m - (x.f0.size : Int) - (x.f1.size : Int) < 0
    · rw [if_pos c2]; exact ⟨-1, rfl, by decide⟩
    · rw [if_neg c2, wrap64_at (m - (x.f0.size : Int) - (x.f1.size : Int) - (x.f2.size : Int)) (by omega)]
      by_cases c3 : m - (x.f0.size : Int) - (x.f1.size : Int) - (x.f2.size : Int) < 0
      · rw [if_pos c3]; exact ⟨-1, rfl, by decide⟩
      · rw [if_neg c3]; exact ⟨_, rfl, by omega⟩
theorem sz_loop (l : List S32) (hl : l.length ≤ maxLen) (hz : ∀ x ∈ l, x.f0.size ≤ maxLen ∧ x.f1.size ≤ maxLen ∧ x.f2.size ≤ maxLen) (d : Nat) : ∀ (k i : Nat) (m : Int), 0 ≤ m → m ≤ 1048576 → i + d = l.length → d < k →
    ∃ r : Int, laws_szItemS.l0 k l m (i : Int) = some r ∧ r ≤ 1048576 := by
  have hm : maxLen = 9223372036854775807 := rfl
  induction d with
  | zero =>
    intro k i m h0 h1 h2 h3
    obtain ⟨k, rfl⟩ : ∃ k', k = k' + 1 := ⟨k - 1, by omega⟩
    rw [laws_szItemS.l0, if_neg (by omega)]
    exact ⟨m, rfl, h1⟩
  | succ d ih =>
    intro k i m h0 h1 h2 h3
    obtain ⟨k, rfl⟩ : ∃ k', k = k' + 1 := ⟨k - 1, by omega⟩
    have hi' : i < l.length := by omega
    have c1 : (i : Int) < (l.length : Int) := Int.ofNat_lt.2 hi'
    rw [laws_szItemS.l0, if_pos c1, if_pos (Int.natCast_nonneg i), rd32 l i hi']
    obtain ⟨r, e, hr⟩ := sz_one l[i] m h0 h1 (hz _ (List.getElem_mem hi'))
    rw [e, Option.bind_some]
    by_cases c : r < 0
    · rw [if_pos c]; exact ⟨-1, rfl, by decide⟩
    · have w1 : wrap64 ((i : Int) + 1) = ((i + 1 : Nat) : Int) := by rw [wrap64_at _ (by omega)]; omega
      rw [if_neg c, w1]
      exact ih k (i + 1) r (by omega) hr (by omega) (by omega)
theorem sz_all (l : List S32) (m : Int) (h0 : 0 ≤ m) (h1 : m ≤ 1048576) (hl : l.length ≤ maxLen) (hz : ∀ x ∈ l, x.f0.size ≤ maxLen ∧ x.f1.size ≤ maxLen ∧ x.f2.size ≤ maxLen) :
    ∃ r : Int, r ≤ 1048576 ∧ (0 ≤ r → l.length ≤ 1048576) ∧ ∀ k, l.length < k → laws_szItemS.f k l m = some r := by
  have hm : maxLen = 9223372036854775807 := rfl
  by_cases c1 : m - (l.length : Int) < 0
  · refine ⟨-1, by decide, fun h => absurd h (by decide), fun k hk => ?_⟩
    unfold laws_szItemS.f
    rw [wrap64_at (m - (l.length : Int)) (by omega), if_pos c1]
  · obtain ⟨r, e, hr⟩ := sz_loop l hl hz l.length (l.length + 1) 0 (m - (l.length : Int)) (by omega) (by omega) (by omega) (by omega)
    refine ⟨r, hr, fun _ => by omega, fun k hk => ?_⟩
    obtain ⟨r2, e2, hr2⟩ := sz_loop l hl hz l.length k 0 (m - (l.length : Int)) (by omega) (by omega) (by omega) hk
    have e3 : laws_szItemS.f (l.length + 1) l m = some r := by
      unfold laws_szItemS.f
      rw [wrap64_at (m - (l.length : Int)) (by omega), if_neg c1]
      exact e
    have hmono : ∀ n, laws_szItemS.f (l.length + 1 + n) l m = some r := fun n => by
      induction n with
      | zero => exact e3
      | succ n ih => exact laws_szItemS.mono _ _ _ _ ih
    rw [show k = l.length + 1 + (k - (l.length + 1)) by omega]
    exact hmono _

/-! ### the copy -/
theorem to_loop (l : List S32) (hl : l.length ≤ 1048576) (d : Nat) : ∀ (k i : Nat) (acc : List S33), acc.length = l.length → (∀ j, j < i → acc[j]? = (l.map toI)[j]?) → i + d = l.length → d < k →
    laws_toItemS.l0 k l acc (i : Int) = some (l.map toI) := by
  induction d with
  | zero =>
    intro k i acc h1 h2 h3 h4
    obtain ⟨k, rfl⟩ : ∃ k', k = k' + 1 := ⟨k - 1, by omega⟩
    rw [laws_toItemS.l0, if_neg (by omega)]
    refine congrArg some (List.ext_getElem? fun j => ?_)
    by_cases hj : j < i
    · exact h2 j hj
    · rw [List.getElem?_eq_none (by omega), List.getElem?_eq_none (by rw [List.length_map]; omega)]
  | succ d ih =>
    intro k i acc h1 h2 h3 h4
    obtain ⟨k, rfl⟩ : ∃ k', k = k' + 1 := ⟨k - 1, by omega⟩
    have hi' : i < l.length := by omega
    have c1 : (i : Int) < (l.length : Int) := Int.ofNat_lt.2 hi'
    have c2 : (i : Int) < (acc.length : Int) := by rw [h1]; exact c1
    have w1 : wrap64 ((i : Int) + 1) = ((i + 1 : Nat) : Int) := by rw [wrap64_at _ (by omega)]; omega
    rw [laws_toItemS.l0, if_pos c1, if_pos (Int.natCast_nonneg i), rd32 l i hi']
    unfold laws_toItem.f
    rw [Option.bind_some, if_pos c2, w1, Int.toNat_natCast]
    refine ih k (i + 1) _ (by rw [List.length_set]; exact h1) (fun j hj => ?_) (by omega) (by omega)
    by_cases hji : j = i
    · subst hji
      rw [List.getElem?_set_self (by omega), List.getElem?_map, List.getElem?_eq_getElem hi']
      rfl
    · rw [List.getElem?_set_ne (by omega)]
      exact h2 j (by omega)
theorem to_all (l : List S32) (hl : l.length ≤ 1048576) (k : Nat) (hk : l.length < k) : laws_toItemS.f k l = some (l.map toI) := by
  unfold laws_toItemS.f
  rw [if_pos (Int.natCast_nonneg _), if_pos (by omega)]
  exact to_loop l hl l.length k 0 _ (by simp) (fun j h => by omega) (by omega) hk

/-! ### the law -/
theorem law_pure (l0 l1 : List S32) (h0 : l0.length ≤ maxLen) (h1 : l1.length ≤ maxLen) (z0 : ∀ x ∈ l0, x.f0.size ≤ maxLen ∧ x.f1.size ≤ maxLen ∧ x.f2.size ≤ maxLen) (z1 : ∀ x ∈ l1, x.f0.size ≤ maxLen ∧ x.f1.size ≤ maxLen ∧ x.f2.size ≤ maxLen) :
    ∃ k, laws_FnExactRosterFollow.f k l0 l1 = some true := by
  obtain ⟨k, hk⟩ : ∃ k, k = l0.length + l1.length + 4000000 := ⟨_, rfl⟩
  refine ⟨k + 1, ?_⟩
  obtain ⟨r0, hr0, hs0, e0⟩ := sz_all l0 1048576 (by decide) (by decide) h0 z0
  unfold laws_FnExactRosterFollow.f
  refine bs (e0 (k + 1) (by omega)) ?_
  by_cases c0 : r0 < 0
  · rw [if_pos c0]
  rw [if_neg c0]
  obtain ⟨r1, hr1, hs1, e1⟩ := sz_all l1 r0 (by omega) hr0 h1 z1
  refine bs (e1 (k + 1) (by omega)) ?_
  by_cases c1 : r1 < 0
  · rw [if_pos c1]
  rw [if_neg c1]
  have hl0 := hs0 (by omega)
  have hl1 := hs1 (by omega)
  obtain ⟨L0, hL0⟩ : ∃ L, L = l0.map toI := ⟨_, rfl⟩
  obtain ⟨L1, hL1⟩ : ∃ L, L = l1.map toI := ⟨_, rfl⟩
  have n0 : L0.length = l0.length := by rw [hL0, List.length_map]
  have n1 : L1.length = l1.length := by rw [hL1, List.length_map]
  have t0 : ∀ K, k ≤ K → laws_toItemS.f K l0 = some L0 := fun K hK => by rw [hL0]; exact to_all l0 hl0 K (by omega)
  have t1 : ∀ K, k ≤ K → laws_toItemS.f K l1 = some L1 := fun K hK => by rw [hL1]; exact to_all l1 hl1 K (by omega)
  obtain ⟨R, hR, hF⟩ := follow_alike L0 L1
  have hF' : ∀ K, k ≤ K → spec_RosterFollow.f K L0 L1 = some R ∧ impl_RosterFollow.f K L0 L1 = some R := fun K hK => hF K (by omega)
  have q0 : ∀ K, k ≤ K → laws_eqItemS.f K L0 L0 = some true := fun K hK => eq_list L0 (by omega) K (by omega)
  have q1 : ∀ K, k ≤ K → laws_eqItemS.f K L1 L1 = some true := fun K hK => eq_list L1 (by omega) K (by omega)
  have qR : ∀ K, k ≤ K → laws_eqItemS.f K R R = some true := fun K hK => eq_list R (by omega) K (by omega)
  obtain ⟨M0, hM0⟩ := marked L0 1 (by decide) (by decide) (by omega)
  obtain ⟨M1, hM1⟩ := marked L1 (1 + 5 * L0.length) (by omega) (by omega) (by omega)
  obtain ⟨MR, hMR⟩ := marked R 1 (by decide) (by decide) (by omega)
  have m0 : laws_markItemS.f (k + 1) L0 1 = some (((1 + 5 * L0.length : Nat) : Int), M0) := (hM0 (k + 1) (by omega)).1
  have m1 := (hM1 (k + 1) (by omega)).1
  have mR : laws_markItemS.f k R 1 = some (((1 + 5 * R.length : Nat) : Int), MR) := (hMR k (by omega)).1
  have gR : laws_heldItemS.f k MR 1 = some ((1 + 5 * R.length : Nat) : Int) := (hMR k (by omega)).2
  have d1 : ¬ (((1 + 5 * L0.length + 5 * L1.length : Nat) : Int) < 0) := by omega
  have dR : ¬ (((1 + 5 * R.length : Nat) : Int) < 0) := by omega
  have hj : laws_FnExactRosterFollow.j0 (k + 1) l0 l1 R R false = some true := by
    rw [laws_FnExactRosterFollow.j0]
    refine (if_neg (by decide)).trans ?_
    refine bs mR ?_
    refine bs gR ?_
    refine (if_neg dR).trans ?_
    refine (if_pos rfl).trans ?_
    refine bs (t0 k (Nat.le_refl _)) ?_
    refine bs (t1 k (Nat.le_refl _)) ?_
    refine bs (hF' k (Nat.le_refl _)).2 ?_
    refine bs (qR k (Nat.le_refl _)) ?_
    refine it ?_
    refine bs gR ?_
    refine (if_neg dR).trans ?_
    exact if_pos rfl
  have hkk : k ≤ k + 1 := Nat.le_succ k
  refine bs (t0 _ hkk) ?_
  refine bs (t1 _ hkk) ?_
  refine bs (hF' _ hkk).1 ?_
  refine bs (t0 _ hkk) ?_
  refine bs (t1 _ hkk) ?_
  refine bs (hF' _ hkk).2 ?_
  refine bs (qR _ hkk) ?_
  refine it ?_
  refine bs (t0 _ hkk) ?_
  refine bs (q0 _ hkk) ?_
  refine it ?_
  refine bs (t1 _ hkk) ?_
  refine bs (q1 _ hkk) ?_
  refine it ?_
  refine bs m0 ?_
  refine bs m1 ?_
  refine (if_neg d1).trans ?_
  refine bs (qR _ hkk) ?_
  exact hj
theorem law_walk (A0 : Option Addr) (c0 : Nat) (l0 : List S32) (A1 : Option Addr) (c1 : Nat) (l1 : List S32) (hc0 : l0.length ≤ c0) (hc1 : l1.length ≤ c1) (h0 : l0.length ≤ maxLen) (h1 : l1.length ≤ maxLen) (z0 : ∀ x ∈ l0, x.f0.size ≤ maxLen ∧ x.f1.size ≤ maxLen ∧ x.f2.size ≤ maxLen) (z1 : ∀ x ∈ l1, x.f0.size ≤ maxLen ∧ x.f1.size ≤ maxLen ∧ x.f2.size ≤ maxLen) (w : World) (hr0 : Kd.C k32 w A0 l0.length l0) (hr1 : Kd.C k32 w A1 l1.length l1) :
    Calls Try.prog 3 #[.slice A0 l0.length c0, .slice A1 l1.length c1] w fun e w' => e = .returned (.bool true) ∧ Below w.heap.size w w' := by
  obtain ⟨k, h⟩ := law_pure l0 l1 h0 h1 z0 z1
  exact laws_FnExactRosterFollow.calls k A0 c0 l0 A1 c1 l1 true w hr0 hc0 hr1 hc1 h rfl
end Go.Proofs.Ytgfmapilimlamaa.QFnExactRosterFollow
