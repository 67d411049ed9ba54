/- Plain: a dialback is right by the program just where it is by the reference; what is read off the argument. -/
import Derived.Test.YtjchggdekbnmnaaDoorDomainFnExactDbResult
set_option linter.unusedSimpArgs false
set_option linter.unusedVariables false
namespace Go.Proofs.YtjchggdekbnmnaaDoor.QFnExactDbResult
open Go Go.RowKit Go.Proofs.YtjchggdekbnmnaaDoorW.PrintWords

def toP (x : S97) : S71 := ⟨x.f0, x.f1, x.f2, x.f3⟩
theorem rd97 (l : List S97) (i : Nat) (h : i < l.length) : rd_T97 l (i : Int) = l[i] := by
  unfold rd_T97
  rw [Int.toNat_natCast, List.getD_eq_getElem?_getD, List.getElem?_eq_getElem h]
  rfl
theorem rd71 (l : List S71) (i : Nat) (h : i < l.length) : rd_T71 l (i : Int) = l[i] := by
  unfold rd_T71
  rw [Int.toNat_natCast, List.getD_eq_getElem?_getD, List.getElem?_eq_getElem h]
  rfl

/-! ### the size -/
theorem sz_one (x : S97) (m : Int) (h0 : 0 ≤ m) (h1 : m ≤ 1048576) (hx : x.f0.size ≤ maxLen ∧ x.f3.size ≤ maxLen) :
    ∃ r : Int, laws_szPeer.f x.f0 x.f1 x.f2 x.f3 m = some r ∧ r ≤ 1048576 ∧ (0 ≤ r → x.f0.size ≤ 1048576 ∧ x.f3.size ≤ 1048576) := by
  have hm : maxLen = 9223372036854775807 := rfl
  unfold laws_szPeer.f
  rw [wrap64_at (m - (x.f0.size : Int)) (by omega)]
  by_cases c1 : m - (x.f0.size : Int) < 0
  · rw [if_pos c1]; exact ⟨-1, rfl, by decide, fun h => absurd h (by decide)⟩
  · rw [if_neg c1, wrap64_at (m - (x.f0.size : Int) - (x.f3.size : Int)) (by omega)]
    by_cases c2 : m - (x.f0.size : Int) - (x.f3.size : Int) < 0
    · rw [if_pos c2]; exact ⟨-1, rfl, by decide, fun h => absurd h (by decide)⟩
    · rw [if_neg c2]; exact ⟨_, rfl, by omega, fun _ => ⟨by omega, by omega⟩⟩

theorem sz_loop (l : List S97) (hl : l.length ≤ maxLen) (hz : ∀ x ∈ l, x.f0.size ≤ maxLen ∧ x.f3.size ≤ maxLen) : ∀ (k i : Nat) (m : Int), 0 ≤ m → m ≤ 1048576 → i ≤ l.length → l.length - i < k →
    ∃ r : Int, laws_szPeerS.l0 k l m (i : Int) = some r ∧ (0 ≤ r → ∀ j (h : j < l.length), i ≤ j → l[j].f0.size ≤ 1048576 ∧ l[j].f3.size ≤ 1048576)
  | 0, i, m, h0, h1, h2, h3 => by omega
  | k + 1, i, m, h0, h1, h2, h3 => by
    have hm : maxLen = 9223372036854775807 := rfl
    rw [laws_szPeerS.l0]
    by_cases hi : (i : Int) < (l.length : Int)
    · have hi' : i < l.length := by omega
      rw [if_pos hi, if_pos (by omega), rd97 l i hi']
      obtain ⟨r, e, hr, hs⟩ := sz_one l[i] m h0 h1 (hz _ (List.getElem_mem hi'))
      rw [e]
      simp only [Option.bind_some]
      by_cases c : r < 0
      · rw [if_pos c]; exact ⟨-1, rfl, fun h => absurd h (by decide)⟩
      · rw [if_neg c, wrap64_at ((i : Int) + 1) (by omega), show ((i : Int) + 1) = ((i + 1 : Nat) : Int) by omega]
        obtain ⟨r2, e2, h2'⟩ := sz_loop l hl hz k (i + 1) r (by omega) hr (by omega) (by omega)
        refine ⟨r2, e2, fun h j hj hij => ?_⟩
        by_cases hji : j = i
        · subst hji; exact hs (by omega)
        · exact h2' h j hj (by omega)
    · rw [if_neg hi]
      exact ⟨m, rfl, fun _ j hj hij => by omega⟩

theorem sz_all (a : ByteArray) (n : Int) (l : List S97) (ha : a.size ≤ maxLen) (hl : l.length ≤ maxLen) (hz : ∀ x ∈ l, x.f0.size ≤ maxLen ∧ x.f3.size ≤ maxLen) (k : Nat) (hk : l.length < k) :
    ∃ r : Int, laws_szDialback.f k a n l 1048576 = some r ∧ (0 ≤ r → a.size ≤ 1048576 ∧ l.length ≤ 1048576 ∧ ∀ x ∈ l, x.f0.size ≤ 1048576 ∧ x.f3.size ≤ 1048576) := by
  have hm : maxLen = 9223372036854775807 := rfl
  unfold laws_szDialback.f laws_szPeerS.f
  rw [wrap64_at (1048576 - (a.size : Int)) (by omega)]
  by_cases c1 : 1048576 - (a.size : Int) < 0
  · rw [if_pos c1]; exact ⟨-1, rfl, fun h => absurd h (by decide)⟩
  · rw [if_neg c1, wrap64_at (1048576 - (a.size : Int) - (l.length : Int)) (by omega)]
    by_cases c2 : 1048576 - (a.size : Int) - (l.length : Int) < 0
    · rw [if_pos c2]; exact ⟨-1, rfl, fun h => absurd h (by decide)⟩
    · rw [if_neg c2]
      obtain ⟨r, e, hr⟩ := sz_loop l hl hz k 0 (1048576 - (a.size : Int) - (l.length : Int)) (by omega) (by omega) (by omega) (by omega)
      rw [show (0 : Int) = ((0 : Nat) : Int) from rfl, e]
      simp only [Option.bind_some]
      by_cases c3 : r < ((0 : Nat) : Int)
      · rw [if_pos c3]; exact ⟨-1, rfl, fun h => absurd h (by decide)⟩
      · rw [if_neg c3]
        refine ⟨r, rfl, fun h => ⟨by omega, by omega, fun x hx => ?_⟩⟩
        obtain ⟨j, hj, rfl⟩ := List.mem_iff_getElem.1 hx
        exact hr h j hj (Nat.zero_le _)

/-! ### the copy -/
theorem to_loop (l : List S97) (hl : l.length ≤ 1048576) : ∀ (k i : Nat) (acc : List S71), acc.length = l.length → (∀ j, j < i → acc[j]? = (l.map toP)[j]?) → i ≤ l.length → l.length - i < k →
    laws_toPeerS.l0 k l acc (i : Int) = some (l.map toP)
  | 0, i, acc, h1, h2, h3, h4 => by omega
  | k + 1, i, acc, h1, h2, h3, h4 => by
    rw [laws_toPeerS.l0]
    by_cases hi : (i : Int) < (l.length : Int)
    · have hi' : i < l.length := by omega
      rw [if_pos hi, if_pos (by omega), rd97 l i hi']
      unfold laws_toPeer.f
      simp only [Option.bind_some]
      rw [if_pos (by omega), wrap64_at ((i : Int) + 1) (by omega), show ((i : Int) + 1) = ((i + 1 : Nat) : Int) by omega, Int.toNat_natCast]
      refine to_loop l hl k (i + 1) _ (by rw [List.length_set]; exact h1) (fun j hj => ?_) (by omega) (by omega)
      by_cases hji : j = i
      · subst hji
        rw [List.getElem?_set_self (by omega), List.getElem?_map, List.getElem?_eq_getElem hi']
        rfl
      · rw [List.getElem?_set_ne (by omega)]
        exact h2 j (by omega)
    · rw [if_neg hi]
      refine congrArg some (List.ext_getElem? fun j => ?_)
      by_cases hj : j < i
      · exact h2 j hj
      · rw [List.getElem?_eq_none (by omega), List.getElem?_eq_none (by rw [List.length_map]; omega)]
theorem to_all (a : ByteArray) (n : Int) (l : List S97) (hl : l.length ≤ 1048576) (k : Nat) (hk : l.length < k) : laws_toDialback.f k a n l = some (a, n, l.map toP) := by
  unfold laws_toDialback.f laws_toPeerS.f
  rw [if_pos (by omega), if_pos (by omega), show (0 : Int) = ((0 : Nat) : Int) from rfl, to_loop l hl k 0 _ (by simp) (fun j h => by omega) (by omega) (by omega)]
  rfl

/-! ### alike -/
theorem eq_loop (l : List S71) (hl : l.length ≤ 1048576) : ∀ (k i : Nat), i ≤ l.length → l.length - i < k → laws_eqPeerS.l0 k l l (i : Int) = some true
  | 0, i, h3, h4 => by omega
  | k + 1, i, h3, h4 => by
    rw [laws_eqPeerS.l0]
    by_cases hi : (i : Int) < (l.length : Int)
    · rw [if_pos hi, if_pos (by omega), if_pos hi]
      unfold laws_eqPeer.f
      simp only [if_true, Option.bind_some]
      rw [wrap64_at ((i : Int) + 1) (by omega), show ((i : Int) + 1) = ((i + 1 : Nat) : Int) by omega]
      exact eq_loop l hl k (i + 1) (by omega) (by omega)
    · rw [if_neg hi]
theorem eq_all (a : ByteArray) (n : Int) (l : List S71) (hl : l.length ≤ 1048576) (k : Nat) (hk : l.length < k) : laws_eqDialback.f k a n l a n l = some true := by
  unfold laws_eqDialback.f laws_eqPeerS.f
  rw [if_pos rfl, if_pos rfl, if_pos rfl, show (0 : Int) = ((0 : Nat) : Int) from rfl, eq_loop l hl k 0 (by omega) (by omega)]
  rfl

/-! ### right -/
theorem is_some (x lo hi : Int) : ∃ q : Bool, spec_l03Is.f x lo hi = some q ∧ impl_in.f x lo hi = some q := by
  unfold spec_l03Is.f impl_in.f
  by_cases c : x ≥ lo
  · rw [if_pos c]; exact ⟨_, rfl, rfl⟩
  · rw [if_neg c]; exact ⟨_, rfl, rfl⟩
theorem dom_alike (a : ByteArray) (h : a.size ≤ 1048576) (ks ki : Nat) (hs : a.size + 10 ≤ ks) (hi : a.size + 1 ≤ ki) : ∃ q : Bool, spec_l05Domain.f ks a = some q ∧ impl_isDomain.f ki a = some q := by
  obtain ⟨x1, e1, q1⟩ := spec_domain a h ks hs
  obtain ⟨y1, f1, p1⟩ := impl_domain a h ki hi
  have g1 : y1 = x1 := by rw [Bool.eq_iff_iff]; exact p1.trans q1.symm
  subst g1
  refine ⟨y1, ?_, f1⟩
  unfold spec_l05Domain.f
  rw [e1]; rfl

theorem dial_loop (a : ByteArray) (n : Int) (L : List S71) (hL : ∀ x ∈ L, x.f0.size ≤ 1048576) (hlen : L.length ≤ 1048576) : ∀ (d i ks ki : Nat), i + d = L.length → d + 1048620 ≤ ks → 2 * d + 1048620 ≤ ki →
    ∃ b : Bool, spec_DialbackRight.l0 ks (i : Int) a n L = some b ∧ impl_DialbackRight.l0 ki L (L.length : Int) (i : Int) a n L = some b
  | 0, i, ks, ki, h1, h2, h3 => by
    obtain ⟨ks, rfl⟩ : ∃ k, ks = k + 1 := ⟨ks - 1, by omega⟩
    obtain ⟨ki, rfl⟩ : ∃ k, ki = k + 1 := ⟨ki - 1, by omega⟩
    rw [spec_DialbackRight.l0, impl_DialbackRight.l0, if_neg (by omega), if_neg (by omega)]
    exact ⟨true, rfl, rfl⟩
  | d + 1, i, ks, ki, h1, h2, h3 => by
    obtain ⟨ks, rfl⟩ : ∃ k, ks = k + 1 := ⟨ks - 1, by omega⟩
    obtain ⟨ki, rfl⟩ : ∃ k, ki = k + 2 := ⟨ki - 2, by omega⟩
    have hi : i < L.length := by omega
    have k1 : (i : Int) < (L.length : Int) := by omega
    have k2 : 0 ≤ (i : Int) := by omega
    rw [spec_DialbackRight.l0, impl_DialbackRight.l0]
    simp only [if_pos k1, if_pos k2, rd71 L i hi]
    have hx := hL _ (List.getElem_mem hi)
    generalize L[i] = x at hx
    obtain ⟨b, e1, e2⟩ := dial_loop a n L hL hlen d (i + 1) ks ki (by omega) (by omega) (by omega)
    rw [show ((i + 1 : Nat) : Int) = wrap64 ((i : Int) + 1) by rw [wrap64_at ((i : Int) + 1) (by omega)]; omega] at e1 e2
    obtain ⟨q1, f1, g1⟩ := dom_alike x.f0 hx ks (ki + 1) (by omega) (by omega)
    obtain ⟨q2, f2, g2⟩ := is_some x.f1 1 (wrap64 (n - 1))
    obtain ⟨q3, f3, g3⟩ := is_some x.f2 0 3
    have hj : ∀ fl : Bool, impl_DialbackRight.j2 (ki + 1) L (L.length : Int) (i : Int) fl a n L x.f0 x.f1 x.f2 x.f3 = some (!fl && (q3 && (!decide ((x.f3.size : Int) > 64) && (!((x.f3.toList == ([] : List UInt8)) != (x.f2 == 0)) && b)))) := by
      intro fl
      rw [impl_DialbackRight.j2, g3, e2]
      generalize ((x.f3.toList == ([] : List UInt8)) != (x.f2 == 0)) = z
      by_cases c : (x.f3.size : Int) > 64 <;> cases fl <;> cases q3 <;> cases z <;> simp [c]
    simp only [hj, f1, f2, f3, g1, g2, e1, Option.bind_some]
    generalize ((x.f3.toList == ([] : List UInt8)) != (x.f2 == 0)) = z
    by_cases c0 : (i : Int) > 0
    · have hw : wrap64 ((i : Int) - 1) = (i : Int) - 1 := wrap64_at _ (by omega)
      simp only [if_pos c0, hw, if_pos (show 0 ≤ (i : Int) - 1 by omega), if_pos (show (i : Int) - 1 < (L.length : Int) by omega)]
      by_cases c1 : (rd_T71 L ((i : Int) - 1)).f1 ≥ x.f1
      · simp only [if_pos c1]
        cases q1 <;> cases q2 <;> simp
      · simp only [if_neg c1]
        by_cases c : (x.f3.size : Int) > 64 <;> cases q1 <;> cases q2 <;> cases q3 <;> cases z <;> simp [c]
    · simp only [if_neg c0]
      by_cases c : (x.f3.size : Int) > 64 <;> cases q1 <;> cases q2 <;> cases q3 <;> cases z <;> simp [c]

theorem right_alike (a : ByteArray) (n : Int) (L : List S71) (ha : a.size ≤ 1048576) (hL : ∀ x ∈ L, x.f0.size ≤ 1048576) (hlen : L.length ≤ 1048576) (k : Nat) (hk : 2 * L.length + a.size + 1048700 ≤ k) :
    ∃ b : Bool, spec_DialbackRight.f k a n L = some b ∧ impl_DialbackRight.f k a n L = some b := by
  obtain ⟨k, rfl⟩ : ∃ k', k = k' + 1 := ⟨k - 1, by omega⟩
  obtain ⟨b, e1, e2⟩ := dial_loop a n L hL hlen L.length 0 k k (by omega) (by omega) (by omega)
  obtain ⟨q1, f1, g1⟩ := dom_alike a ha (k + 1) (k + 1) (by omega) (by omega)
  obtain ⟨q2, f2, g2⟩ := is_some n 1 1000000000
  unfold spec_DialbackRight.f impl_DialbackRight.f impl_isId.f
  rw [f1, f2, g1, g2]
  simp only [Option.bind_some, spec_DialbackRight.j0, impl_DialbackRight.j0]
  rw [show (0 : Int) = ((0 : Nat) : Int) from rfl, e1, e2]
  cases q1 <;> cases q2 <;> by_cases c : (L.length : Int) > 10 <;> simp [c]
end Go.Proofs.YtjchggdekbnmnaaDoor.QFnExactDbResult
