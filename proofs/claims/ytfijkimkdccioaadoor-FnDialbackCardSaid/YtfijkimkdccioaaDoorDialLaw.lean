/- Plain: the law of a house that trusts answers true, whatever is drawn. -/
import Derived.Test.YtfijkimkdccioaaDoorDialDraw
import Derived.Test.YtfijkimkdccioaaDoorQFnDialbackx17
set_option linter.unusedSimpArgs false
set_option linter.unusedVariables false
namespace Go.Proofs.YtfijkimkdccioaaDoor.QFnDialback
open Go Go.RowKit Go.Proofs.YtfijkimkdccioaaDoorW.PrintWords

theorem bs {α β : Type} {x : Option α} {v : α} {f : α → Option β} {r : Option β} (h : x = some v) (k : f v = r) : x.bind f = r := by subst h; exact k
/-! ### a dialback is like itself -/
theorem lw_loop (a : ByteArray) (n : Int) (L : List S43) (hl : L.length ≤ 1000) (d : Nat) : ∀ (i k : Nat), i + d = L.length → d < k → laws_lwDialback.l0 k (i : Int) a n L a n L = some true := by
  induction d with
  | zero =>
    intro i k h1 h2
    obtain ⟨k, rfl⟩ : ∃ k', k = k' + 1 := ⟨k - 1, by omega⟩
    rw [laws_lwDialback.l0, if_neg (by omega)]
  | succ d ih =>
    intro i k h1 h2
    obtain ⟨k, rfl⟩ : ∃ k', k = k' + 1 := ⟨k - 1, by omega⟩
    have hi : i < L.length := by omega
    have c1 : (i : Int) < (L.length : Int) := Int.ofNat_lt.2 hi
    have hw : wrap64 ((i : Int) + 1) = ((i + 1 : Nat) : Int) := by rw [wrap64_at _ (by omega)]; omega
    rw [laws_lwDialback.l0, if_pos c1, if_pos (Int.natCast_nonneg i), if_pos c1, if_neg (by simp), hw]
    exact ih (i + 1) k (by omega) (by omega)
theorem lw_self (a : ByteArray) (n : Int) (L : List S43) (hl : L.length ≤ 1000) (k : Nat) (hk : 1010 ≤ k) : laws_lwDialback.f k a n L a n L = some true := by
  obtain ⟨k, rfl⟩ : ∃ k', k = k' + 1 := ⟨k - 1, by omega⟩
  have e : ((L.length : Int) != (L.length : Int)) = false := by simp
  unfold laws_lwDialback.f
  rw [if_pos rfl, if_pos rfl, e, laws_lwDialback.j0, if_neg (by decide)]
  exact lw_loop a n L hl L.length 0 k (by omega) (by omega)

/-! ### a house that was told -/
theorem told_loop (a : ByteArray) (n : Int) (L : List S43) (hS : Small a L) (hR : RightP a n L) (id : Int) (good : Bool) (m c : Int) (p : Nat) (hp : p < L.length) (hid : L[p].f1 = id) (hst : L[p].f2 = if good = true then 2 else 3) (d : Nat) : ∀ (i k : Nat), i + d = L.length → d + 1100020 ≤ k →
    laws_FnDialback.l0 k id good (i : Int) a n L m c = some true := by
  have same : ∀ p', ∀ hp' : p' < L.length, L[p'].f1 = id → p' = p := fun p' hp' e => by
    have h1 := place_of hR p' hp'
    have h2 := place_of hR p hp
    rw [e] at h1
    rw [hid, h1] at h2
    omega
  induction d with
  | zero =>
    intro i k h1 h2
    obtain ⟨k, rfl⟩ : ∃ k', k = k' + 1 := ⟨k - 1, by omega⟩
    obtain ⟨o1, o2, o3, o4, o5, _, f2, _, _, fo⟩ := verified_told a n L id good hS k (by omega)
    have h10 : o5 = 10 := fo hR p hp hid (by rw [hst]; cases good <;> decide)
    rw [laws_FnDialback.l0, if_neg (by omega)]
    refine bs f2 ?_
    show some (o5 == 10) = some true
    rw [h10]
    rfl
  | succ d ih =>
    intro i k h1 h2
    obtain ⟨k, rfl⟩ : ∃ k', k = k' + 1 := ⟨k - 1, by omega⟩
    have hi : i < L.length := by omega
    have hlen := hS.len
    have c1 : (i : Int) < (L.length : Int) := Int.ofNat_lt.2 hi
    have hw : wrap64 ((i : Int) + 1) = ((i + 1 : Nat) : Int) := by rw [wrap64_at _ (by omega)]; omega
    rw [laws_FnDialback.l0, if_pos c1, if_pos (Int.natCast_nonneg i), rd43 L i hi, hw]
    by_cases c : L[i].f1 = id
    · rw [if_pos c]
      obtain ⟨b, _, f2, fb⟩ := trusts_told a n L L[i].f0 id hS (hS.each _ (List.getElem_mem hi)) k (by omega)
      have hb : b = good := by
        rw [fb hR i hi c rfl]
        have := same i hi c
        subst this
        rw [hst]
        cases good <;> rfl
      refine bs f2 ?_
      rw [hb, if_neg (by simp)]
      exact ih (i + 1) k (by omega) (by omega)
    · rw [if_neg c]
      exact ih (i + 1) k (by omega) (by omega)

/-! ### the law, from its end -/
theorem law_j4t (id : Int) (good : Bool) (s : ByteArray) (i : Int) (a1 : ByteArray) (n1 : Int) (L1 : List S43) (m c : Int) (a : ByteArray) (n : Int) (L : List S43) (hS : Small a L) (hs : s.size ≤ 1000) (k : Nat) (hk : 1100020 ≤ k) :
    laws_FnDialback.j4 k id good s i true a1 n1 L1 m c a n L = some true := by
  obtain ⟨k, rfl⟩ : ∃ k', k = k' + 1 := ⟨k - 1, by omega⟩
  obtain ⟨b, e1, e2, _⟩ := trusts_told a n L s i hS hs k (by omega)
  obtain ⟨q, f1, f2, _⟩ := right_small a n L hS k (by omega)
  rw [laws_FnDialback.j4, if_pos rfl]
  refine bs e2 ?_
  refine bs e1 ?_
  rw [if_pos (by simp)]
  refine bs f2 ?_
  refine bs f1 ?_
  simp
theorem law_j3 (l : List Int) (hl : l.length ≤ 140737488351232) (id : Int) (good : Bool) (a1 : ByteArray) (n1 : Int) (L1 : List S43) (m c : Int) (hz : c = 0 → ∀ k, 1101100 ≤ k → laws_FnDialback.l0 k id good 0 a1 n1 L1 m c = some true) (k : Nat) (hk : 1300000 ≤ k) :
    laws_FnDialback.j3 k l id good false a1 n1 L1 m c = some true := by
  obtain ⟨k, rfl⟩ : ∃ k', k = k' + 1 := ⟨k - 1, by omega⟩
  obtain ⟨r, e0, hS, hs⟩ := draw_trusts l hl k (by omega)
  obtain ⟨b, e1, e2, _⟩ := trusts_told r.1 r.2.1 r.2.2.1 r.2.2.2.1 r.2.2.2.2 hS hs k (by omega)
  obtain ⟨q, f1, f2, _⟩ := right_small r.1 r.2.1 r.2.2.1 hS k (by omega)
  rw [laws_FnDialback.j3, if_neg (by decide)]
  refine bs e0 ?_
  refine bs e2 ?_
  refine bs e1 ?_
  rw [if_neg (by simp)]
  refine bs f2 ?_
  refine bs f1 ?_
  rw [if_neg (by simp)]
  by_cases c0 : c = 0
  · have e : (c != 0) = false := by simp [c0]
    obtain ⟨k, rfl⟩ : ∃ k', k = k' + 1 := ⟨k - 1, by omega⟩
    rw [e, laws_FnDialback.j4, if_neg (by decide)]
    exact hz c0 k (by omega)
  · have e : (c != 0) = true := by simp [c0]
    rw [e]
    exact law_j4t id good _ _ a1 n1 L1 m c _ _ _ hS hs k (by omega)
theorem law_j2 (l : List Int) (hl : l.length ≤ 140737488351232) (ida : Int) (key : ByteArray) (hkey : key.size ≤ 1000) (id : Int) (good : Bool) (ya : ByteArray) (yn : Int) (yL : List S43) (ym yc : Int) (hyS : Small ya yL)
    (hy : yc = 0 → RightP ya yn yL ∧ 1 ≤ key.size ∧ key.size ≤ 64 ∧ ∃ p, ∃ hp : p < yL.length, yL[p].f1 = ida ∧ yL[p].f2 ≠ 0)
    (a1 : ByteArray) (n1 : Int) (L1 : List S43) (m c : Int) (hz : c = 0 → ∀ k, 1101100 ≤ k → laws_FnDialback.l0 k id good 0 a1 n1 L1 m c = some true) (k : Nat) (hk : 1300010 ≤ k) :
    laws_FnDialback.j2 k l ida key id good false ya yn yL ym yc a1 n1 L1 m c = some true := by
  obtain ⟨k, rfl⟩ : ∃ k', k = k' + 1 := ⟨k - 1, by omega⟩
  rw [laws_FnDialback.j2, if_neg (by decide)]
  by_cases c0 : yc = 0
  · obtain ⟨hR, h1, h64, p, hp, hid, hne⟩ := hy c0
    obtain ⟨o1, o2, o3, o4, o5, _, f2, _, _, fo⟩ := result_told ya yn yL ida key hyS hkey k (by omega)
    have h10 : o5 = 10 := fo hR h1 h64 p hp hid hne
    obtain ⟨q, g1, _, gq⟩ := right_small ya yn yL hyS k (by omega)
    have hq : q = true := gq.2 hR
    rw [if_pos c0]
    refine bs f2 ?_
    dsimp only
    rw [if_pos h10]
    refine bs g1 ?_
    rw [hq]
    exact law_j3 l hl id good a1 n1 L1 m c hz k (by omega)
  · rw [if_neg c0]
    exact law_j3 l hl id good a1 n1 L1 m c hz k (by omega)
theorem law_j1 (l : List Int) (hl : l.length ≤ 140737488351232) (s : ByteArray) (hs : s.size ≤ 1000) (ida : Int) (key : ByteArray) (hkey : key.size ≤ 1000) (id : Int) (good : Bool) (da : ByteArray) (dn : Int) (dL : List S43)
    (xa : ByteArray) (xn : Int) (xL : List S43) (xi xc : Int) (hxS : Small xa xL) (hx : xc = 0 → xi = dn ∧ RightP xa xn xL ∧ ∃ p, ∃ hp : p < xL.length, xL[p].f1 = xi ∧ xL[p].f0 = s ∧ xL[p].f2 = 0)
    (ya : ByteArray) (yn : Int) (yL : List S43) (ym yc : Int) (hyS : Small ya yL) (hy : yc = 0 → RightP ya yn yL ∧ 1 ≤ key.size ∧ key.size ≤ 64 ∧ ∃ p, ∃ hp : p < yL.length, yL[p].f1 = ida ∧ yL[p].f2 ≠ 0)
    (a1 : ByteArray) (n1 : Int) (L1 : List S43) (m c : Int) (hz : c = 0 → ∀ k, 1101100 ≤ k → laws_FnDialback.l0 k id good 0 a1 n1 L1 m c = some true) (k : Nat) (hk : 1300020 ≤ k) :
    laws_FnDialback.j1 k l s ida key id good false da dn dL xa xn xL xi xc ya yn yL ym yc a1 n1 L1 m c = some true := by
  obtain ⟨k, rfl⟩ : ∃ k', k = k' + 1 := ⟨k - 1, by omega⟩
  have hj := law_j2 l hl ida key hkey id good ya yn yL ym yc hyS hy a1 n1 L1 m c hz k (by omega)
  rw [laws_FnDialback.j1, if_neg (by decide)]
  by_cases c0 : xc = 0
  · obtain ⟨hi, hR, p, hp, hpi, hps, hp2⟩ := hx c0
    obtain ⟨b, _, e2, fb⟩ := trusts_told xa xn xL s xi hxS hs k (by omega)
    have hb : b = false := by
      rw [fb hR p hp hpi (by rw [hps]), hp2]
      rfl
    obtain ⟨q, g1, _, gq⟩ := right_small xa xn xL hxS k (by omega)
    have hq : q = true := gq.2 hR
    rw [if_pos c0, if_pos hi]
    refine bs e2 ?_
    rw [hb, if_neg (by decide)]
    refine bs g1 ?_
    rw [hq]
    exact hj
  · rw [if_neg c0]
    exact hj
theorem law_pure (l0 l1 : List Int) (h0 : l0.length ≤ 140737488351232) (h1 : l1.length ≤ 140737488351232) : ∃ k, laws_FnDialback.f k l0 l1 = some true := by
  obtain ⟨k, hk⟩ : ∃ k, k = 2000000 := ⟨_, rfl⟩
  refine ⟨k + 1, ?_⟩
  have hyes : laws_FnDialback.j0 (k + 1) l0 l1 true = some true := by rw [laws_FnDialback.j0, if_pos rfl]
  unfold laws_FnDialback.f
  by_cases c : (l0.length : Int) > 1048576
  · rw [if_pos c]; exact hyes
  rw [if_neg c]
  by_cases c' : (l1.length : Int) > 1048576
  · rw [decide_eq_true c']; exact hyes
  rw [decide_eq_false c', laws_FnDialback.j0, if_neg (by decide)]
  obtain ⟨d, ed, hdS, hds⟩ := draw_open l0 h0 k (by omega)
  obtain ⟨x1, x2, x3, x4, x5, sx, ix, xS, xo⟩ := open_told d.1 d.2.1 d.2.2.1 d.2.2.2 hdS hds k (by omega)
  obtain ⟨e, ee, heS, hes⟩ := draw_result l1 h1 k (by omega)
  obtain ⟨y1, y2, y3, y4, y5, sy, iy, yS, yo, _⟩ := result_told e.1 e.2.1 e.2.2.1 e.2.2.2.1 e.2.2.2.2 heS hes k (by omega)
  obtain ⟨f, ef, hfS⟩ := draw_verified l1 h1 k (by omega)
  obtain ⟨z1, z2, z3, z4, z5, sz, iz, zS, zo, _⟩ := verified_told f.1 f.2.1 f.2.2.1 f.2.2.2.1 f.2.2.2.2 hfS k (by omega)
  refine bs ed ?_
  refine bs ix ?_
  refine bs ee ?_
  refine bs iy ?_
  refine bs ef ?_
  refine bs iz ?_
  refine bs sx ?_
  refine (if_pos rfl).trans ?_
  refine bs sx ?_
  refine bs (lw_self x1 x2 x3 (by have := xS.len; omega) k (by omega)) ?_
  refine (if_pos rfl).trans ?_
  refine bs sy ?_
  refine (if_pos rfl).trans ?_
  refine bs sy ?_
  refine bs (lw_self y1 y2 y3 (by have := yS.len; omega) k (by omega)) ?_
  refine (if_pos rfl).trans ?_
  refine bs sz ?_
  refine (if_pos rfl).trans ?_
  refine bs sz ?_
  refine bs (lw_self z1 z2 z3 (by have := zS.len; omega) k (by omega)) ?_
  refine law_j1 l0 h0 d.2.2.2 hds e.2.2.2.1 e.2.2.2.2 hes f.2.2.2.1 f.2.2.2.2 d.1 d.2.1 d.2.2.1 x1 x2 x3 x4 x5 xS ?_ y1 y2 y3 y4 y5 yS ?_ z1 z2 z3 z4 z5 ?_ k (by omega)
  · intro h
    obtain ⟨hR, hd, hlt, hn, rfl, rfl, rfl, rfl⟩ := xo h
    refine ⟨rfl, right_push hR hd hlt hn, d.2.2.1.length, by rw [List.length_append]; show _ < _ + 1; omega, ?_⟩
    rw [List.getElem_append_right (Nat.le_refl _)]
    simp
  · intro h
    obtain ⟨hR, h1, h64, p, hp, hid, h2, rfl, rfl, rfl⟩ := yo h
    refine ⟨right_set hR p hp 1 _ ⟨by decide, by decide⟩ ⟨h1, h64⟩, h1, h64, p, by rw [List.length_set]; exact hp, ?_⟩
    rw [List.getElem_set_self]
    exact ⟨hid, by show ((1 : Int) ≠ 0); decide⟩
  · intro h k' hk'
    obtain ⟨hR, p, hp, hid, h2, rfl, rfl, rfl⟩ := zo h
    have hx := hR.each p hp
    have hkey : 1 ≤ (f.2.2.1[p]'hp).f3.size := by
      rcases Nat.eq_zero_or_pos (f.2.2.1[p]'hp).f3.size with h0 | h0
      · have := hx.bare.1 h0
        rw [h2] at this
        exact absurd this (by decide)
      · exact h0
    have hR' := right_set hR p hp (if f.2.2.2.2 = true then 2 else 3) (f.2.2.1[p]'hp).f3 (by split <;> decide) ⟨hkey, hx.key⟩
    refine told_loop _ _ _ zS hR' _ _ _ _ p (by rw [List.length_set]; exact hp) (by rw [List.getElem_set_self]; exact hid) (by rw [List.getElem_set_self]) _ 0 k' (by rw [List.length_set]; exact Nat.zero_add _) ?_
    have := hfS.len
    omega
theorem pure : laws_FnDialback.Pure := fun l0 l1 h0 y0 _ h1 y1 _ => law_pure l0 l1 (by omega) (by omega)
end Go.Proofs.YtfijkimkdccioaaDoor.QFnDialback
