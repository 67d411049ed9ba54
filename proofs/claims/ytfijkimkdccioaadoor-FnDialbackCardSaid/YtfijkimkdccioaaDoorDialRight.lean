/- Plain: a dialback is right by the program just where it is by the reference, and what that means. -/
import Derived.Test.YtfijkimkdccioaaDoorDialDomain
import Derived.Test.YtfijkimkdccioaaDoorQFnDialbackx4
import Derived.Test.YtfijkimkdccioaaDoorQFnDialbackx10
import Derived.Test.YtfijkimkdccioaaDoorQFnDialbackx5
import Derived.Test.YtfijkimkdccioaaDoorQFnDialbackx12
set_option linter.unusedSimpArgs false
set_option linter.unusedVariables false
namespace Go.Proofs.YtfijkimkdccioaaDoor.QFnDialback
open Go Go.RowKit Go.Proofs.YtfijkimkdccioaaDoorW.PrintWords
theorem rd43 (l : List S43) (i : Nat) (h : i < l.length) : rd_T43 l (i : Int) = l[i] := by
  unfold rd_T43
  rw [Int.toNat_natCast, List.getD_eq_getElem?_getD, List.getElem?_eq_getElem h]
  rfl
/-! ### right -/
theorem is_some (x lo hi : Int) : ∃ q : Bool, spec_l03Is.f x lo hi = some q ∧ impl_in.f x lo hi = some q := by
  unfold spec_l03Is.f impl_in.f
  by_cases c : x ≥ lo
  · rw [if_pos c]; exact ⟨_, rfl, rfl⟩
  · rw [if_neg c]; exact ⟨_, rfl, rfl⟩
theorem dom_alike (a : ByteArray) (h : a.size ≤ 1048576) (ks ki : Nat) (hs : a.size + 10 ≤ ks) (hi : a.size + 1 ≤ ki) : ∃ q : Bool, spec_l05Domain.f ks a = some q ∧ impl_isDomain.f ki a = some q := by
  obtain ⟨x1, e1, q1⟩ := spec_domain a h ks hs
  obtain ⟨y1, f1, p1⟩ := impl_domain a h ki hi
  have g1 : y1 = x1 := by rw [Bool.eq_iff_iff]; exact p1.trans q1.symm
  subst g1
  refine ⟨y1, ?_, f1⟩
  unfold spec_l05Domain.f
  rw [e1]; rfl

theorem dial_loop (a : ByteArray) (n : Int) (L : List S43) (hL : ∀ x ∈ L, x.f0.size ≤ 1048576) (hlen : L.length ≤ 1048576) : ∀ (d i ks ki : Nat), i + d = L.length → d + 1048620 ≤ ks → 2 * d + 1048620 ≤ ki →
    ∃ b : Bool, spec_DialbackRight.l0 ks (i : Int) a n L = some b ∧ impl_DialbackRight.l0 ki L (L.length : Int) (i : Int) a n L = some b
  | 0, i, ks, ki, h1, h2, h3 => by
    obtain ⟨ks, rfl⟩ : ∃ k, ks = k + 1 := ⟨ks - 1, by omega⟩
    obtain ⟨ki, rfl⟩ : ∃ k, ki = k + 1 := ⟨ki - 1, by omega⟩
    rw [spec_DialbackRight.l0, impl_DialbackRight.l0, if_neg (by omega), if_neg (by omega)]
    exact ⟨true, rfl, rfl⟩
  | d + 1, i, ks, ki, h1, h2, h3 => by
    obtain ⟨ks, rfl⟩ : ∃ k, ks = k + 1 := ⟨ks - 1, by omega⟩
    obtain ⟨ki, rfl⟩ : ∃ k, ki = k + 2 := ⟨ki - 2, by omega⟩
    have hi : i < L.length := by omega
    have k1 : (i : Int) < (L.length : Int) := by omega
    have k2 : 0 ≤ (i : Int) := by omega
    rw [spec_DialbackRight.l0, impl_DialbackRight.l0]
    simp only [if_pos k1, if_pos k2, rd43 L i hi]
    have hx := hL _ (List.getElem_mem hi)
    generalize L[i] = x at hx
    obtain ⟨b, e1, e2⟩ := dial_loop a n L hL hlen d (i + 1) ks ki (by omega) (by omega) (by omega)
    rw [show ((i + 1 : Nat) : Int) = wrap64 ((i : Int) + 1) by rw [wrap64_at ((i : Int) + 1) (by omega)]; omega] at e1 e2
    obtain ⟨q1, f1, g1⟩ := dom_alike x.f0 hx ks (ki + 1) (by omega) (by omega)
    obtain ⟨q2, f2, g2⟩ := is_some x.f1 1 (wrap64 (n - 1))
    obtain ⟨q3, f3, g3⟩ := is_some x.f2 0 3
    have hj : ∀ fl : Bool, impl_DialbackRight.j2 (ki + 1) L (L.length : Int) (i : Int) fl a n L x.f0 x.f1 x.f2 x.f3 = some (!fl && (q3 && (!decide ((x.f3.size : Int) > 64) && (!((x.f3.toList == ([] : List UInt8)) != (x.f2 == 0)) && b)))) := by
      intro fl
      rw [impl_DialbackRight.j2, g3, e2]
      generalize ((x.f3.toList == ([] : List UInt8)) != (x.f2 == 0)) = z
      by_cases c : (x.f3.size : Int) > 64 <;> cases fl <;> cases q3 <;> cases z <;> simp [c]
    simp only [hj, f1, f2, f3, g1, g2, e1, Option.bind_some]
    generalize ((x.f3.toList == ([] : List UInt8)) != (x.f2 == 0)) = z
    by_cases c0 : (i : Int) > 0
    · have hw : wrap64 ((i : Int) - 1) = (i : Int) - 1 := wrap64_at _ (by omega)
      simp only [if_pos c0, hw, if_pos (show 0 ≤ (i : Int) - 1 by omega), if_pos (show (i : Int) - 1 < (L.length : Int) by omega)]
      by_cases c1 : (rd_T43 L ((i : Int) - 1)).f1 ≥ x.f1
      · simp only [if_pos c1]
        cases q1 <;> cases q2 <;> simp
      · simp only [if_neg c1]
        by_cases c : (x.f3.size : Int) > 64 <;> cases q1 <;> cases q2 <;> cases q3 <;> cases z <;> simp [c]
    · simp only [if_neg c0]
      by_cases c : (x.f3.size : Int) > 64 <;> cases q1 <;> cases q2 <;> cases q3 <;> cases z <;> simp [c]

theorem right_alike (a : ByteArray) (n : Int) (L : List S43) (ha : a.size ≤ 1048576) (hL : ∀ x ∈ L, x.f0.size ≤ 1048576) (hlen : L.length ≤ 1048576) (k : Nat) (hk : 2 * L.length + a.size + 1048700 ≤ k) :
    ∃ b : Bool, spec_DialbackRight.f k a n L = some b ∧ impl_DialbackRight.f k a n L = some b := by
  obtain ⟨k, rfl⟩ : ∃ k', k = k' + 1 := ⟨k - 1, by omega⟩
  obtain ⟨b, e1, e2⟩ := dial_loop a n L hL hlen L.length 0 k k (by omega) (by omega) (by omega)
  obtain ⟨q1, f1, g1⟩ := dom_alike a ha (k + 1) (k + 1) (by omega) (by omega)
  obtain ⟨q2, f2, g2⟩ := is_some n 1 1000000000
  unfold spec_DialbackRight.f impl_DialbackRight.f impl_isId.f
  rw [f1, f2, g1, g2]
  simp only [Option.bind_some, spec_DialbackRight.j0, impl_DialbackRight.j0]
  rw [show (0 : Int) = ((0 : Nat) : Int) from rfl, e1, e2]
  cases q1 <;> cases q2 <;> by_cases c : (L.length : Int) > 10 <;> simp [c]
/-! ### the place of a peer -/
def place (id : Int) : List S43 → Nat → Int
  | [], _ => -1
  | x :: l, i => if x.f1 = id then (i : Int) else place id l (i + 1)
theorem place_range (id : Int) : ∀ (l : List S43) (i : Nat), place id l i < 0 ∨ ((i : Int) ≤ place id l i ∧ place id l i < ((i + l.length : Nat) : Int))
  | [], i => .inl (by show (-1 : Int) < 0; decide)
  | x :: l, i => by
    unfold place
    by_cases c : x.f1 = id
    · rw [if_pos c]; refine .inr ⟨Int.le_refl _, ?_⟩; simp only [List.length_cons]; omega
    · rw [if_neg c]
      rcases place_range id l (i + 1) with h | ⟨h1, h2⟩
      · exact .inl h
      · refine .inr ⟨by omega, ?_⟩; simp only [List.length_cons]; omega
theorem place_peerAt (id : Int) : ∀ (l : List S43) (i : Nat), impl_peerAt.idx id l (i : Int) = place id l i
  | [], i => rfl
  | x :: l, i => by
    unfold place impl_peerAt.idx
    by_cases c : x.f1 = id
    · rw [if_pos c, if_pos c]
    · rw [if_neg c, if_neg c, show ((i : Int) + 1) = ((i + 1 : Nat) : Int) by omega]
      exact place_peerAt id l (i + 1)
theorem place_loop (id : Int) (a : ByteArray) (n : Int) (L : List S43) (hL : L.length ≤ 1048576) : ∀ (d i : Nat), i + d = L.length → ∀ K, d + 1 ≤ K → spec_l06Peer.l0 K id (i : Int) a n L = some (place id (L.drop i) i)
  | 0, i, h, K, hK => by
    obtain ⟨K, rfl⟩ : ∃ k, K = k + 1 := ⟨K - 1, by omega⟩
    rw [spec_l06Peer.l0, if_neg (by omega), List.drop_eq_nil_of_le (by omega)]
    rfl
  | d + 1, i, h, K, hK => by
    obtain ⟨K, rfl⟩ : ∃ k, K = k + 1 := ⟨K - 1, by omega⟩
    have hi : i < L.length := by omega
    rw [spec_l06Peer.l0, if_pos (by omega), if_pos (by omega), rd43 L i hi, List.drop_eq_getElem_cons hi, place]
    by_cases c : L[i].f1 = id
    · rw [if_pos c, if_pos c]
    · rw [if_neg c, if_neg c, wrap64_at ((i : Int) + 1) (by omega), show ((i : Int) + 1) = ((i + 1 : Nat) : Int) by omega]
      exact place_loop id a n L hL d (i + 1) (by omega) K (by omega)
theorem peer_alike (id : Int) (a : ByteArray) (n : Int) (L : List S43) (hL : L.length ≤ 1048576) (K : Nat) (hK : L.length + 1 ≤ K) :
    ∃ p : Int, spec_l06Peer.f K a n L id = some p ∧ impl_peerAt.f a n L id = some p ∧ (p < 0 ∨ (0 ≤ p ∧ p < (L.length : Int))) := by
  refine ⟨place id L 0, ?_, ?_, ?_⟩
  · exact place_loop id a n L hL L.length 0 (by omega) K hK
  · unfold impl_peerAt.f
    exact congrArg some (place_peerAt id L 0)
  · rcases place_range id L 0 with h | ⟨h1, h2⟩
    · exact .inl h
    · exact .inr ⟨by omega, by omega⟩

/-! ### what right means -/
theorem nil_iff (s : ByteArray) : s.toList = [] ↔ s.size = 0 := by
  rw [toList_data]
  constructor
  · intro h
    have h2 : s.data.toList.length = 0 := by rw [h]; rfl
    exact h2
  · intro h
    have h2 : s.data.toList.length = 0 := h
    exact List.length_eq_zero_iff.1 h2
theorem dom_spec (a : ByteArray) (h : a.size ≤ 1048576) (k : Nat) (hk : a.size + 10 ≤ k) : ∃ q : Bool, spec_l05Domain.f k a = some q ∧ (q = true ↔ domOk a) := by
  obtain ⟨b, e, hb⟩ := spec_domain a h k hk
  exact ⟨b, by unfold spec_l05Domain.f; rw [e]; rfl, hb⟩
theorem dom_impl (a : ByteArray) (h : a.size ≤ 1048576) (k : Nat) (hk : a.size + 1 ≤ k) : ∃ q : Bool, impl_isDomain.f k a = some q ∧ (q = true ↔ domOk a) := impl_domain a h k hk
theorem is_val (x lo hi : Int) : ∃ q : Bool, spec_l03Is.f x lo hi = some q ∧ (q = true ↔ lo ≤ x ∧ x ≤ hi) := by
  unfold spec_l03Is.f
  by_cases c : x ≥ lo
  · rw [if_pos c]; exact ⟨_, rfl, by rw [decide_eq_true_iff]; exact ⟨fun h => ⟨c, h⟩, fun h => h.2⟩⟩
  · rw [if_neg c]; exact ⟨false, rfl, ⟨fun h => absurd h (by decide), fun h => absurd h.1 c⟩⟩
/-- A peer that is right in a house whose next number is n. -/
structure PeerOk (n : Int) (x : S43) : Prop where
  dom : domOk x.f0
  low : 1 ≤ x.f1
  high : x.f1 ≤ n - 1
  st0 : 0 ≤ x.f2
  st3 : x.f2 ≤ 3
  key : x.f3.size ≤ 64
  bare : x.f3.size = 0 ↔ x.f2 = 0
structure RightP (a : ByteArray) (n : Int) (L : List S43) : Prop where
  dom : domOk a
  low : 1 ≤ n
  high : n ≤ 1000000000
  few : L.length ≤ 10
  each : ∀ j (h : j < L.length), PeerOk n L[j]
  order : ∀ j (h : j < L.length) (h0 : 0 < j), (L[j - 1]'(by omega)).f1 < L[j].f1
theorem bne_iff (s : ByteArray) (m : Int) : ((s.toList == ([] : List UInt8)) != (m == 0)) = false ↔ (s.size = 0 ↔ m = 0) := by
  have e : (s.toList == ([] : List UInt8)) = decide (s.size = 0) := by
    by_cases c : s.size = 0
    · rw [decide_eq_true c, beq_iff_eq]; exact (nil_iff s).2 c
    · rw [decide_eq_false c, beq_eq_false_iff_ne]; exact fun h => c ((nil_iff s).1 h)
  rw [e]
  by_cases c : s.size = 0 <;> by_cases d : m = 0 <;> simp [c, d]
theorem spec_loop (a : ByteArray) (n : Int) (hn : -1000000000000 ≤ n ∧ n ≤ 1000000000000) (L : List S43) (hL : ∀ x ∈ L, x.f0.size ≤ 1048576) (hlen : L.length ≤ 1048576) (d : Nat) : ∀ (i ks : Nat), i + d = L.length → d + 1048620 ≤ ks →
    ∃ b : Bool, spec_DialbackRight.l0 ks (i : Int) a n L = some b ∧ (b = true ↔ ∀ j (h : j < L.length), i ≤ j → PeerOk n L[j] ∧ ∀ (h0 : 0 < j), (L[j - 1]'(by omega)).f1 < L[j].f1) := by
  induction d with
  | zero =>
    intro i ks h1 h2
    obtain ⟨ks, rfl⟩ : ∃ k, ks = k + 1 := ⟨ks - 1, by omega⟩
    rw [spec_DialbackRight.l0, if_neg (by omega)]
    exact ⟨true, rfl, ⟨fun _ j h hij => by omega, fun _ => rfl⟩⟩
  | succ d ih =>
    intro i ks h1 h2
    obtain ⟨ks, rfl⟩ : ∃ k, ks = k + 1 := ⟨ks - 1, by omega⟩
    have hi : i < L.length := by omega
    have k1 : (i : Int) < (L.length : Int) := Int.ofNat_lt.2 hi
    have k2 : 0 ≤ (i : Int) := Int.natCast_nonneg i
    have hx := hL _ (List.getElem_mem hi)
    obtain ⟨b, e1, eb⟩ := ih (i + 1) ks (by omega) (by omega)
    have hw : wrap64 ((i : Int) + 1) = ((i + 1 : Nat) : Int) := by rw [wrap64_at _ (by omega)]; omega
    have hwn : wrap64 (n - 1) = n - 1 := wrap64_at _ (by omega)
    obtain ⟨q1, f1, g1⟩ := dom_spec L[i].f0 hx ks (by omega)
    obtain ⟨q2, f2, g2⟩ := is_val L[i].f1 1 (n - 1)
    obtain ⟨q3, f3, g3⟩ := is_val L[i].f2 0 3
    have no : ∀ (P : Prop), (PeerOk n L[i] → ¬ P → False) → ¬ P → (false = true ↔ ∀ j (h : j < L.length), i ≤ j → PeerOk n L[j] ∧ ∀ (h0 : 0 < j), (L[j - 1]'(by omega)).f1 < L[j].f1) := fun P hP hn => ⟨fun h => absurd h (by decide), fun h => (hP (h i hi (Nat.le_refl i)).1 hn).elim⟩
    have tail : ∃ t : Bool, ((spec_l03Is.f L[i].f2 0 3).bind fun t113 => (if t113 = true then (if (L[i].f3.size : Int) > 64 then (some false) else (if ((L[i].f3.toList == ([] : List UInt8)) != (L[i].f2 == 0)) = true then (some false) else (spec_DialbackRight.l0 ks (wrap64 ((i : Int) + 1)) a n L))) else (some false))) = some t ∧
        (t = true ↔ (0 ≤ L[i].f2 ∧ L[i].f2 ≤ 3) ∧ L[i].f3.size ≤ 64 ∧ (L[i].f3.size = 0 ↔ L[i].f2 = 0) ∧ b = true) := by
      rw [f3, Option.bind_some, hw, e1]
      by_cases c3 : q3 = true
      · rw [if_pos c3]
        by_cases c4 : (L[i].f3.size : Int) > 64
        · rw [if_pos c4]; exact ⟨false, rfl, ⟨fun h => absurd h (by decide), fun h => absurd h.2.1 (by omega)⟩⟩
        · rw [if_neg c4]
          by_cases c5 : ((L[i].f3.toList == ([] : List UInt8)) != (L[i].f2 == 0)) = true
          · rw [if_pos c5]
            refine ⟨false, rfl, ⟨fun h => absurd h (by decide), fun h => ?_⟩⟩
            have := (bne_iff L[i].f3 L[i].f2).2 h.2.2.1
            rw [this] at c5; exact absurd c5 (by decide)
          · rw [if_neg c5]
            exact ⟨b, rfl, ⟨fun h => ⟨g3.1 c3, by omega, (bne_iff _ _).1 (by simpa using c5), h⟩, fun h => h.2.2.2⟩⟩
      · rw [if_neg c3]; exact ⟨false, rfl, ⟨fun h => absurd h (by decide), fun h => absurd (g3.2 h.1) c3⟩⟩
    obtain ⟨t, et, gt⟩ := tail
    rw [spec_DialbackRight.l0, if_pos k1, if_pos k2, rd43 L i hi, f1, Option.bind_some]
    by_cases c1 : q1 = true
    · rw [if_pos c1, hwn, f2, Option.bind_some]
      by_cases c2 : q2 = true
      · rw [if_pos c2]
        have fin : ∀ (ho : ∀ (h0 : 0 < i), (L[i - 1]'(by omega)).f1 < L[i].f1), (t = true ↔ ∀ j (h : j < L.length), i ≤ j → PeerOk n L[j] ∧ ∀ (h0 : 0 < j), (L[j - 1]'(by omega)).f1 < L[j].f1) := fun ho => by
          rw [gt]
          constructor
          · rintro ⟨⟨h1, h2⟩, h3, h4, h5⟩ j hj hij
            by_cases hji : j = i
            · subst hji
              exact ⟨⟨g1.1 c1, (g2.1 c2).1, (g2.1 c2).2, h1, h2, h3, h4⟩, ho⟩
            · exact eb.1 h5 j hj (by omega)
          · intro h
            have hp := (h i hi (Nat.le_refl i)).1
            exact ⟨⟨hp.st0, hp.st3⟩, hp.key, hp.bare, eb.2 (fun j hj hij => h j hj (by omega))⟩
        by_cases c0 : (i : Int) > 0
        · have hw1 : wrap64 ((i : Int) - 1) = ((i - 1 : Nat) : Int) := by rw [wrap64_at _ (by omega)]; omega
          rw [if_pos c0, hw1, if_pos (Int.natCast_nonneg _), if_pos (by omega), rd43 L (i - 1) (by omega)]
          by_cases co : (L[i - 1]'(by omega)).f1 ≥ L[i].f1
          · rw [if_pos co]
            refine ⟨false, rfl, ⟨fun h => absurd h (by decide), fun h => ?_⟩⟩
            have := (h i hi (Nat.le_refl i)).2 (by omega)
            omega
          · rw [if_neg co]
            exact ⟨t, et, fin (fun _ => by omega)⟩
        · rw [if_neg c0]
          exact ⟨t, et, fin (fun h0 => by omega)⟩
      · rw [if_neg c2]
        exact ⟨false, rfl, no (q2 = true) (fun hp h => h (g2.2 ⟨hp.low, hp.high⟩)) c2⟩
    · rw [if_neg c1]
      exact ⟨false, rfl, no (q1 = true) (fun hp h => h (g1.2 hp.dom)) c1⟩
theorem spec_right (a : ByteArray) (n : Int) (L : List S43) (ha : a.size ≤ 1048576) (hL : ∀ x ∈ L, x.f0.size ≤ 1048576) (hlen : L.length ≤ 1048576) (k : Nat) (hk : 2 * L.length + a.size + 1048700 ≤ k) :
    ∃ b : Bool, spec_DialbackRight.f k a n L = some b ∧ (b = true ↔ RightP a n L) := by
  obtain ⟨k, rfl⟩ : ∃ k', k = k' + 1 := ⟨k - 1, by omega⟩
  obtain ⟨q1, f1, g1⟩ := dom_spec a ha (k + 1) (by omega)
  obtain ⟨q2, f2, g2⟩ := is_val n 1 1000000000
  have hj0 : spec_DialbackRight.j0 (k + 1) true a n L = some false := by rw [spec_DialbackRight.j0, if_pos rfl]
  unfold spec_DialbackRight.f
  rw [f1, Option.bind_some]
  by_cases c1 : q1 = true
  · rw [if_pos c1, f2, Option.bind_some]
    by_cases c2 : q2 = true
    · rw [if_pos c2]
      have hn := g2.1 c2
      by_cases c3 : (L.length : Int) > 10
      · rw [decide_eq_true c3, hj0]
        exact ⟨false, rfl, ⟨fun h => absurd h (by decide), fun h => absurd h.few (by omega)⟩⟩
      · obtain ⟨b, e, eb⟩ := spec_loop a n (by omega) L hL hlen L.length 0 k (by omega) (by omega)
        rw [decide_eq_false c3, spec_DialbackRight.j0, if_neg (by decide)]
        refine ⟨b, e, ?_⟩
        rw [eb]
        constructor
        · intro h
          exact ⟨g1.1 c1, hn.1, hn.2, by omega, fun j hj => (h j hj (Nat.zero_le j)).1, fun j hj h0 => (h j hj (Nat.zero_le j)).2 h0⟩
        · intro h j hj _
          exact ⟨h.each j hj, fun h0 => h.order j hj h0⟩
    · rw [if_neg c2, hj0]
      exact ⟨false, rfl, ⟨fun h => absurd h (by decide), fun h => absurd (g2.2 ⟨h.low, h.high⟩) c2⟩⟩
  · rw [if_neg c1, hj0]
    exact ⟨false, rfl, ⟨fun h => absurd h (by decide), fun h => absurd (g1.2 h.dom) c1⟩⟩
/-- Both say the same, and just where it is right. -/
theorem right_told (a : ByteArray) (n : Int) (L : List S43) (ha : a.size ≤ 1048576) (hL : ∀ x ∈ L, x.f0.size ≤ 1048576) (hlen : L.length ≤ 1048576) (k : Nat) (hk : 2 * L.length + a.size + 1048700 ≤ k) :
    ∃ b : Bool, spec_DialbackRight.f k a n L = some b ∧ impl_DialbackRight.f k a n L = some b ∧ (b = true ↔ RightP a n L) := by
  obtain ⟨b, e1, e2⟩ := right_alike a n L ha hL hlen k hk
  obtain ⟨b', e3, g⟩ := spec_right a n L ha hL hlen k hk
  rw [e1] at e3
  obtain rfl := Option.some.inj e3
  exact ⟨b, e1, e2, g⟩
end Go.Proofs.YtfijkimkdccioaaDoor.QFnDialback
