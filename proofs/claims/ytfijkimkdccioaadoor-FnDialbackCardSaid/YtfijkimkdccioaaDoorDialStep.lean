/- Plain: what opening, a result, a verdict and trust answer, by the program and by the reference, and what they leave right. -/
import Derived.Test.YtfijkimkdccioaaDoorDialRight
import Derived.Test.YtfijkimkdccioaaDoorQFnDialbackx13
import Derived.Test.YtfijkimkdccioaaDoorQFnDialbackx14
import Derived.Test.YtfijkimkdccioaaDoorQFnDialbackx16
set_option linter.unusedSimpArgs false
set_option linter.unusedVariables false
namespace Go.Proofs.YtfijkimkdccioaaDoor.QFnDialback
open Go Go.RowKit Go.Proofs.YtfijkimkdccioaaDoorW.PrintWords

/-- Small enough for every count here. -/
structure Small (a : ByteArray) (L : List S43) : Prop where
  a : a.size ≤ 1000
  len : L.length ≤ 100
  each : ∀ x ∈ L, x.f0.size ≤ 1000
theorem Small.nil : Small (⟨#[]⟩ : ByteArray) [] := ⟨by decide, by simp, fun x hx => by simp at hx⟩
theorem right_small (a : ByteArray) (n : Int) (L : List S43) (h : Small a L) (k : Nat) (hk : 1100000 ≤ k) :
    ∃ b : Bool, spec_DialbackRight.f k a n L = some b ∧ impl_DialbackRight.f k a n L = some b ∧ (b = true ↔ RightP a n L) :=
  right_told a n L (by have := h.a; omega) (fun x hx => by have := h.each x hx; omega) (by have := h.len; omega) k (by have := h.a; have := h.len; omega)
theorem copy_s (a : ByteArray) (n : Int) (L : List S43) (h : L.length ≤ 1000) : spec_l06Copy.f a n L = some (a, n, L) := by
  have e : ([] : List S43).length + L.length < 2932031007402 := by rw [List.length_nil]; omega
  unfold spec_l06Copy.f
  rw [Option.bind_some, if_pos e, List.nil_append]
theorem copy_i (a : ByteArray) (n : Int) (L : List S43) (h : L.length ≤ 1000) : impl_cloneDialback.f a n L = some (a, n, L) := by
  unfold impl_cloneDialback.f impl_Peer.f
  rw [if_pos (by omega), Option.bind_some]
theorem long_one (s : ByteArray) (k : Nat) : impl_long.f (k + 2) [s] = some (decide ((s.size : Int) > 20000)) := by
  unfold impl_long.f
  have h0 : rdOf ByteArray.empty [s] 0 = s := rfl
  have h1 : (0 : Int) < (([s] : List ByteArray).length : Int) := by simp
  rw [impl_long.l0, if_pos h1, if_pos (Int.le_refl 0), if_pos h1, h0]
  by_cases c : (s.size : Int) > 20000
  · rw [if_pos c, decide_eq_true c]
  · have h2 : ¬ (wrap64 (0 + 1) < (([s] : List ByteArray).length : Int)) := by
      rw [wrap64_at (0 + 1) (by omega)]
      simp
    rw [if_neg c, decide_eq_false c, impl_long.l0, if_neg h2]

/-! ### places -/
theorem place_hit (id : Int) : ∀ (l : List S43) (i p : Nat) (h : p < l.length), l[p].f1 = id → (∀ q (hq : q < l.length), q < p → l[q].f1 ≠ id) → place id l i = ((i + p : Nat) : Int)
  | [], i, p, h, _, _ => by simp at h
  | x :: l, i, 0, h, e, _ => by
    have e' : x.f1 = id := e
    unfold place
    rw [if_pos e']
    rfl
  | x :: l, i, p + 1, h, e, ho => by
    have h0 : x.f1 ≠ id := ho 0 (by simp) (by omega)
    unfold place
    rw [if_neg h0, place_hit id l (i + 1) p (by simpa using h) (by simpa using e) (fun q hq hqp => by
      have := ho (q + 1) (by simpa using hq) (by omega)
      simpa using this)]
    congr 1
    omega
theorem place_back (id : Int) : ∀ (l : List S43) (i : Nat), 0 ≤ place id l i → ∃ p, ∃ h : p < l.length, place id l i = ((i + p : Nat) : Int) ∧ l[p].f1 = id ∧ ∀ q (hq : q < l.length), q < p → l[q].f1 ≠ id
  | [], i, h => by exact absurd (show (0 : Int) ≤ -1 from h) (by decide)
  | x :: l, i, h => by
    unfold place at h ⊢
    by_cases c : x.f1 = id
    · rw [if_pos c]
      exact ⟨0, by simp, rfl, c, fun q _ hq => by omega⟩
    · rw [if_neg c] at h ⊢
      obtain ⟨p, hp, e1, e2, e3⟩ := place_back id l (i + 1) h
      refine ⟨p + 1, by simpa using hp, by rw [e1]; congr 1; omega, by simpa using e2, fun q hq hqp => ?_⟩
      cases q with
      | zero => exact c
      | succ q => simpa using e3 q (by simpa using hq) (by omega)
theorem peer_told (id : Int) (a : ByteArray) (n : Int) (L : List S43) (hL : L.length ≤ 1000) (K : Nat) (hK : 1100000 ≤ K) : spec_l06Peer.f K a n L id = some (place id L 0) ∧ impl_peerAt.f a n L id = some (place id L 0) := by
  refine ⟨place_loop id a n L (by omega) L.length 0 (by omega) K (by omega), ?_⟩
  unfold impl_peerAt.f
  exact congrArg some (place_peerAt id L 0)
theorem order_lt {a : ByteArray} {n : Int} {L : List S43} (h : RightP a n L) (i j : Nat) (hj : j < L.length) (hij : i < j) : (L[i]'(by omega)).f1 < L[j].f1 := by
  induction j with
  | zero => omega
  | succ j ih =>
    have h1 := h.order (j + 1) hj (by omega)
    have h2 : (L[j + 1 - 1]'(by omega)).f1 = (L[j]'(by omega)).f1 := rfl
    rcases Nat.lt_or_eq_of_le (Nat.le_of_lt_succ hij) with hlt | heq
    · have := ih (by omega) hlt; omega
    · subst heq; omega
theorem place_of {a : ByteArray} {n : Int} {L : List S43} (h : RightP a n L) (p : Nat) (hp : p < L.length) : place (L[p].f1) L 0 = (p : Int) := by
  rw [place_hit L[p].f1 L 0 p hp rfl (fun q hq hqp => by have := order_lt h q p hp hqp; omega)]
  congr 1
  omega

/-! ### what stays right -/
theorem right_push {a : ByteArray} {n : Int} {L : List S43} {s : ByteArray} (h : RightP a n L) (hs : domOk s) (hl : L.length < 10) (hn : n < 1000000000) : RightP a (n + 1) (L ++ [(⟨s, n, 0, (⟨#[]⟩ : ByteArray)⟩ : S43)]) := by
  have hlen : (L ++ [(⟨s, n, 0, (⟨#[]⟩ : ByteArray)⟩ : S43)]).length = L.length + 1 := by rw [List.length_append]; rfl
  refine ⟨h.dom, by have := h.low; omega, by omega, by omega, fun j hj => ?_, fun j hj h0 => ?_⟩
  · by_cases c : j < L.length
    · rw [List.getElem_append_left c]
      have := h.each j c
      exact ⟨this.dom, this.low, by have := this.high; omega, this.st0, this.st3, this.key, this.bare⟩
    · have : j = L.length := by omega
      subst this
      rw [List.getElem_append_right (Nat.le_refl _)]
      have e : ([(⟨s, n, 0, (⟨#[]⟩ : ByteArray)⟩ : S43)])[L.length - L.length]'(by simp) = (⟨s, n, 0, (⟨#[]⟩ : ByteArray)⟩ : S43) := by simp
      rw [e]
      exact ⟨hs, h.low, by show n ≤ n + 1 - 1; omega, by show (0 : Int) ≤ 0; decide, by show (0 : Int) ≤ 3; decide, by show (0 : Nat) ≤ 64; decide, ⟨fun _ => rfl, fun _ => rfl⟩⟩
  · by_cases c : j < L.length
    · rw [List.getElem_append_left c, List.getElem_append_left (by omega)]
      exact h.order j c h0
    · have : j = L.length := by omega
      subst this
      rw [List.getElem_append_right (Nat.le_refl _), List.getElem_append_left (by omega)]
      have e : ([(⟨s, n, 0, (⟨#[]⟩ : ByteArray)⟩ : S43)])[L.length - L.length]'(by simp) = (⟨s, n, 0, (⟨#[]⟩ : ByteArray)⟩ : S43) := by simp
      rw [e]
      have := (h.each (L.length - 1) (by omega)).high
      show _ < n
      omega
theorem right_set {a : ByteArray} {n : Int} {L : List S43} (h : RightP a n L) (p : Nat) (hp : p < L.length) (m : Int) (s : ByteArray) (hm : 1 ≤ m ∧ m ≤ 3) (hs : 1 ≤ s.size ∧ s.size ≤ 64) : RightP a n (L.set p (⟨L[p].f0, L[p].f1, m, s⟩ : S43)) := by
  have key : ∀ j (hj : j < L.length), ((L.set p (⟨L[p].f0, L[p].f1, m, s⟩ : S43))[j]'(by rw [List.length_set]; exact hj)).f1 = L[j].f1 := fun j hj => by
    rw [List.getElem_set]
    split
    · rename_i e; subst e; rfl
    · rfl
  refine ⟨h.dom, h.low, h.high, by rw [List.length_set]; exact h.few, fun j hj => ?_, fun j hj h0 => ?_⟩
  · rw [List.length_set] at hj
    rw [List.getElem_set]
    have hj' := h.each j hj
    split
    · rename_i e
      subst e
      exact ⟨hj'.dom, hj'.low, hj'.high, by show 0 ≤ m; omega, hm.2, hs.2, by
        show s.size = 0 ↔ m = 0
        omega⟩
    · exact hj'
  · rw [List.length_set] at hj
    rw [key j hj, key (j - 1) (by omega)]
    exact h.order j hj h0
theorem small_push {a : ByteArray} {L : List S43} {s : ByteArray} {n m : Int} {q : ByteArray} (h : Small a L) (hs : s.size ≤ 1000) (hl : L.length < 100) : Small a (L ++ [(⟨s, n, m, q⟩ : S43)]) :=
  ⟨h.a, by rw [List.length_append]; show _ + 1 ≤ 100; omega, fun x hx => by
    rcases List.mem_append.1 hx with hx | hx
    · exact h.each x hx
    · rw [List.mem_singleton] at hx; subst hx; exact hs⟩
theorem small_set {a : ByteArray} {L : List S43} {p : Nat} {x : S43} (h : Small a L) (hx : x.f0.size ≤ 1000) : Small a (L.set p x) :=
  ⟨h.a, by rw [List.length_set]; exact h.len, fun y hy => by
    rcases List.mem_or_eq_of_mem_set hy with hy | hy
    · exact h.each y hy
    · subst hy; exact hx⟩

/-! ### opening -/
theorem open_told (a : ByteArray) (n : Int) (L : List S43) (s : ByteArray) (h : Small a L) (hs : s.size ≤ 1000) (k : Nat) (hk : 1100010 ≤ k) :
    ∃ (o1 : ByteArray) (o2 : Int) (o3 : List S43) (o4 o5 : Int), spec_DbOpen.f k a n L s = some (o1, o2, o3, o4, o5) ∧ impl_DbOpen.f k a n L s = some (o1, o2, o3, o4, o5) ∧ Small o1 o3 ∧
      (o5 = 0 → RightP a n L ∧ domOk s ∧ L.length < 10 ∧ n < 1000000000 ∧ o1 = a ∧ o2 = n + 1 ∧ o3 = L ++ [(⟨s, n, 0, (⟨#[]⟩ : ByteArray)⟩ : S43)] ∧ o4 = n) := by
  obtain ⟨b, e1, e2, g⟩ := right_small a n L h k (by omega)
  obtain ⟨q, f1, gq⟩ := dom_spec s (by omega) k (by omega)
  obtain ⟨q', f2, gq'⟩ := dom_impl s (by omega) k (by omega)
  have hq : q' = q := by rw [Bool.eq_iff_iff]; exact gq'.trans gq.symm
  subst hq
  obtain ⟨k, rfl⟩ : ∃ k', k = k' + 2 := ⟨k - 2, by omega⟩
  have hlong : impl_long.f (k + 2) [s] = some false := by rw [long_one s k, decide_eq_false (by omega)]
  have hbs : spec_DbOpen.j0 (k + 2) s true a n L = some ((⟨#[]⟩ : ByteArray), 0, [], 0, 1) := by
    rw [spec_DbOpen.j0, if_pos rfl]; rfl
  have hbi : impl_DbOpen.j0 (k + 2) s true a n L = some ((⟨#[]⟩ : ByteArray), 0, [], 0, 1) := by
    rw [impl_DbOpen.j0, if_pos rfl]
  have hbf : spec_DbOpen.j1 (k + 1) s true a n L = some ((⟨#[]⟩ : ByteArray), 0, [], 0, 9) := by
    rw [spec_DbOpen.j1, if_pos rfl]; rfl
  unfold spec_DbOpen.f impl_DbOpen.f
  rw [hlong, Option.bind_some, if_neg (by omega), if_neg (by decide), e1, e2, Option.bind_some, Option.bind_some]
  by_cases cb : b = true
  · rw [if_pos cb, if_pos cb, f1, f2, Option.bind_some, Option.bind_some]
    have hR := g.1 cb
    cases q' with
    | false =>
      rw [show (!false) = true from rfl, hbs, hbi]
      exact ⟨_, _, _, _, _, rfl, rfl, Small.nil, fun h => absurd h (by decide)⟩
    | true =>
      have hd := gq.1 rfl
      rw [show (!true) = false from rfl, spec_DbOpen.j0, impl_DbOpen.j0]
      simp only [Bool.false_eq_true, if_false]
      have hfew := hR.few
      have hnh := hR.high
      by_cases cl : L.length = 10
      · rw [if_pos (show (L.length : Int) ≥ 10 by omega), if_pos (show (L.length : Int) = 10 by omega), hbf]
        exact ⟨_, _, _, _, _, rfl, rfl, Small.nil, fun h => absurd h (by decide)⟩
      · rw [if_neg (show ¬ (L.length : Int) ≥ 10 by omega), if_neg (show ¬ (L.length : Int) = 10 by omega)]
        by_cases cn : n = 1000000000
        · rw [if_pos cn, decide_eq_true (show n ≥ 1000000000 by omega), hbf]
          exact ⟨_, _, _, _, _, rfl, rfl, Small.nil, fun h => absurd h (by decide)⟩
        · have hlow := hR.low
          have hw : wrap64 (n + 1) = n + 1 := wrap64_at _ (by omega)
          rw [if_neg cn, decide_eq_false (show ¬ n ≥ 1000000000 by omega), spec_DbOpen.j1, if_neg (by decide), copy_s a n L (by omega), copy_i a n L (by omega), Option.bind_some, Option.bind_some]
          dsimp only
          rw [if_pos (show L.length < 2932031007402 by omega), hw]
          exact ⟨_, _, _, _, _, rfl, rfl, small_push h hs (by omega), fun _ => ⟨hR, hd, by omega, by omega, rfl, rfl, rfl, rfl⟩⟩
  · rw [if_neg cb, if_neg cb, hbs, hbi]
    exact ⟨_, _, _, _, _, rfl, rfl, Small.nil, fun h => absurd h (by decide)⟩

/-! ### a result -/
theorem result_told (a : ByteArray) (n : Int) (L : List S43) (id : Int) (s : ByteArray) (h : Small a L) (hs : s.size ≤ 1000) (k : Nat) (hk : 1100010 ≤ k) :
    ∃ (o1 : ByteArray) (o2 : Int) (o3 : List S43) (o4 o5 : Int), spec_DbResult.f k a n L id s = some (o1, o2, o3, o4, o5) ∧ impl_DbResult.f k a n L id s = some (o1, o2, o3, o4, o5) ∧ Small o1 o3 ∧
      (o5 = 0 → RightP a n L ∧ 1 ≤ s.size ∧ s.size ≤ 64 ∧ ∃ p, ∃ hp : p < L.length, L[p].f1 = id ∧ L[p].f2 = 0 ∧ o1 = a ∧ o2 = n ∧ o3 = L.set p (⟨L[p].f0, L[p].f1, 1, s⟩ : S43)) ∧
      (RightP a n L → 1 ≤ s.size → s.size ≤ 64 → ∀ p, ∀ hp : p < L.length, L[p].f1 = id → L[p].f2 ≠ 0 → o5 = 10) := by
  obtain ⟨b, e1, e2, g⟩ := right_small a n L h k (by omega)
  obtain ⟨p1, p2⟩ := peer_told id a n L (by have := h.len; omega) k (by omega)
  obtain ⟨k, rfl⟩ : ∃ k', k = k' + 2 := ⟨k - 2, by omega⟩
  have hlong : impl_long.f (k + 2) [s] = some false := by rw [long_one s k, decide_eq_false (by omega)]
  unfold spec_DbResult.f impl_DbResult.f
  rw [p2, Option.bind_some, hlong, Option.bind_some, if_neg (by omega), if_neg (by decide), e1, e2, Option.bind_some, Option.bind_some]
  by_cases cb : b = true
  · rw [if_pos cb, if_pos cb, p1, Option.bind_some]
    have hR := g.1 cb
    by_cases cp : place id L 0 < 0
    · rw [if_pos cp, if_pos cp]
      refine ⟨_, _, _, _, _, rfl, rfl, Small.nil, fun h => absurd h (by decide), fun _ _ _ p hp hid _ => ?_⟩
      have := place_of hR p hp
      rw [hid] at this
      omega
    · obtain ⟨p, hp, ep, eid, efirst⟩ := place_back id L 0 (by omega)
      have ep' : place id L 0 = (p : Int) := by rw [ep]; congr 1; omega
      have q1 : (0 : Int) ≤ (p : Int) := Int.natCast_nonneg p
      have q2 : (p : Int) < (L.length : Int) := Int.ofNat_lt.2 hp
      have same : ∀ p', ∀ hp' : p' < L.length, L[p'].f1 = id → p' = p := fun p' hp' e => by
        have h1 := place_of hR p' hp'
        rw [e, ep'] at h1
        omega
      rw [if_neg cp, if_neg cp, ep']
      by_cases c1 : s.size = 0
      · have hi : impl_in.f (s.size : Int) 1 64 = some false := by unfold impl_in.f; rw [if_neg (by omega)]
        rw [if_pos ((nil_iff s).2 c1), spec_DbResult.j0, if_pos rfl, hi, Option.bind_some, if_neg (by decide)]
        exact ⟨_, _, _, _, _, rfl, rfl, Small.nil, fun h => absurd h (by decide), fun _ h1 => by omega⟩
      · by_cases c2 : s.size > 64
        · have hi : impl_in.f (s.size : Int) 1 64 = some false := by unfold impl_in.f; rw [if_pos (by omega), decide_eq_false (by omega)]
          rw [if_neg (fun h => c1 ((nil_iff s).1 h)), decide_eq_true (show (s.size : Int) > 64 by omega), spec_DbResult.j0, if_pos rfl, hi, Option.bind_some, if_neg (by decide)]
          exact ⟨_, _, _, _, _, rfl, rfl, Small.nil, fun h => absurd h (by decide), fun _ h1 h2 => by omega⟩
        · have hi : impl_in.f (s.size : Int) 1 64 = some true := by unfold impl_in.f; rw [if_pos (by omega), decide_eq_true (by omega)]
          rw [if_neg (fun h => c1 ((nil_iff s).1 h)), decide_eq_false (show ¬ (s.size : Int) > 64 by omega), spec_DbResult.j0, if_neg (by decide), hi, Option.bind_some, if_pos rfl, if_pos q1, if_pos q1, if_pos q2, if_pos q2, rd43 L p hp]
          by_cases c3 : L[p].f2 = 0
          · have hset : ∀ (x : S43), p < (L.set p x).length := fun x => by rw [List.length_set]; exact hp
            have rs : ∀ (x : S43), rd_T43 (L.set p x) (p : Int) = x := fun x => by rw [rd43 _ p (hset x), List.getElem_set_self]
            rw [if_pos c3, if_pos c3, copy_s a n L (by have := h.len; omega), copy_i a n L (by have := h.len; omega), Option.bind_some, Option.bind_some]
            dsimp only
            simp only [if_pos q2, Option.bind_some, Int.toNat_natCast, rd43 L p hp, rs, List.set_set]
            refine ⟨_, _, _, _, _, rfl, rfl, small_set h (show (L[p]'hp).f0.size ≤ 1000 from h.each _ (List.getElem_mem hp)), fun _ => ⟨hR, by omega, by omega, p, hp, eid, c3, rfl, rfl, rfl⟩, fun _ _ _ p' hp' hid hne => ?_⟩
            have := same p' hp' hid
            subst this
            exact absurd c3 hne
          · rw [if_neg c3, if_neg c3]
            exact ⟨_, _, _, _, _, rfl, rfl, Small.nil, fun h => absurd h (by decide), fun _ _ _ _ _ _ _ => rfl⟩
  · rw [if_neg cb, if_neg cb]
    exact ⟨_, _, _, _, _, rfl, rfl, Small.nil, fun h => absurd h (by decide), fun hR => absurd (g.2 hR) cb⟩

/-! ### a verdict -/
theorem verified_told (a : ByteArray) (n : Int) (L : List S43) (id : Int) (good : Bool) (h : Small a L) (k : Nat) (hk : 1100010 ≤ k) :
    ∃ (o1 : ByteArray) (o2 : Int) (o3 : List S43) (o4 o5 : Int), spec_DbVerified.f k a n L id good = some (o1, o2, o3, o4, o5) ∧ impl_DbVerified.f k a n L id good = some (o1, o2, o3, o4, o5) ∧ Small o1 o3 ∧
      (o5 = 0 → RightP a n L ∧ ∃ p, ∃ hp : p < L.length, L[p].f1 = id ∧ L[p].f2 = 1 ∧ o1 = a ∧ o2 = n ∧ o3 = L.set p (⟨L[p].f0, L[p].f1, if good = true then 2 else 3, L[p].f3⟩ : S43)) ∧
      (RightP a n L → ∀ p, ∀ hp : p < L.length, L[p].f1 = id → L[p].f2 ≠ 1 → o5 = 10) := by
  obtain ⟨b, e1, e2, g⟩ := right_small a n L h k (by omega)
  obtain ⟨p1, p2⟩ := peer_told id a n L (by have := h.len; omega) k (by omega)
  unfold spec_DbVerified.f impl_DbVerified.f
  rw [p2, Option.bind_some, e1, e2, Option.bind_some, Option.bind_some]
  by_cases cb : b = true
  · rw [if_pos cb, if_pos cb, p1, Option.bind_some]
    have hR := g.1 cb
    by_cases cp : place id L 0 < 0
    · rw [if_pos cp, if_pos cp]
      refine ⟨_, _, _, _, _, rfl, rfl, Small.nil, fun h => absurd h (by decide), fun _ p hp hid _ => ?_⟩
      have := place_of hR p hp
      rw [hid] at this
      omega
    · obtain ⟨p, hp, ep, eid, efirst⟩ := place_back id L 0 (by omega)
      have ep' : place id L 0 = (p : Int) := by rw [ep]; congr 1; omega
      have q1 : (0 : Int) ≤ (p : Int) := Int.natCast_nonneg p
      have q2 : (p : Int) < (L.length : Int) := Int.ofNat_lt.2 hp
      have same : ∀ p', ∀ hp' : p' < L.length, L[p'].f1 = id → p' = p := fun p' hp' e => by
        have h1 := place_of hR p' hp'
        rw [e, ep'] at h1
        omega
      rw [if_neg cp, if_neg cp, ep', if_pos q1, if_pos q1, if_pos q2, if_pos q2, rd43 L p hp]
      by_cases c3 : L[p].f2 = 1
      · have hset : ∀ (x : S43), p < (L.set p x).length := fun x => by rw [List.length_set]; exact hp
        have rs : ∀ (x : S43), rd_T43 (L.set p x) (p : Int) = x := fun x => by rw [rd43 _ p (hset x), List.getElem_set_self]
        have hno : ∀ (o : Int), RightP a n L → ∀ p', ∀ hp' : p' < L.length, L[p'].f1 = id → L[p'].f2 ≠ 1 → o = 10 := fun o _ p' hp' hid hne => by
          have := same p' hp' hid
          subst this
          exact absurd c3 hne
        rw [if_pos c3, if_pos c3, copy_s a n L (by have := h.len; omega), copy_i a n L (by have := h.len; omega), Option.bind_some, Option.bind_some]
        dsimp only
        simp only [if_pos q2, Option.bind_some, Int.toNat_natCast, rd43 L p hp, rs, List.set_set]
        cases good with
        | true =>
          simp only [if_true]
          exact ⟨_, _, _, _, _, rfl, rfl, small_set h (show (L[p]'hp).f0.size ≤ 1000 from h.each _ (List.getElem_mem hp)), fun _ => ⟨hR, p, hp, eid, c3, rfl, rfl, rfl⟩, hno _⟩
        | false =>
          simp only [Bool.false_eq_true, if_false]
          exact ⟨_, _, _, _, _, rfl, rfl, small_set h (show (L[p]'hp).f0.size ≤ 1000 from h.each _ (List.getElem_mem hp)), fun _ => ⟨hR, p, hp, eid, c3, rfl, rfl, rfl⟩, hno _⟩
      · rw [if_neg c3, if_neg c3]
        exact ⟨_, _, _, _, _, rfl, rfl, Small.nil, fun h => absurd h (by decide), fun _ _ _ _ _ => rfl⟩
  · rw [if_neg cb, if_neg cb]
    exact ⟨_, _, _, _, _, rfl, rfl, Small.nil, fun h => absurd h (by decide), fun hR => absurd (g.2 hR) cb⟩

/-! ### trust -/
theorem trusts_told (a : ByteArray) (n : Int) (L : List S43) (s : ByteArray) (id : Int) (h : Small a L) (hs : s.size ≤ 1000) (k : Nat) (hk : 1100010 ≤ k) :
    ∃ b : Bool, spec_DbTrusts.f k a n L s id = some b ∧ impl_DbTrusts.f k a n L s id = some b ∧ (RightP a n L → ∀ p, ∀ hp : p < L.length, L[p].f1 = id → L[p].f0.toList = s.toList → b = (L[p].f2 == 2)) := by
  obtain ⟨b, e1, e2, g⟩ := right_small a n L h k (by omega)
  obtain ⟨p1, p2⟩ := peer_told id a n L (by have := h.len; omega) k (by omega)
  unfold spec_DbTrusts.f impl_DbTrusts.f
  rw [p2, Option.bind_some, if_neg (by omega), e1, e2, Option.bind_some, Option.bind_some]
  by_cases cb : b = true
  · rw [if_pos cb, if_pos cb, p1, Option.bind_some]
    have hR := g.1 cb
    by_cases cp : place id L 0 < 0
    · rw [if_neg (show ¬ place id L 0 ≥ 0 by omega)]
      refine ⟨_, rfl, rfl, fun _ p hp hid _ => ?_⟩
      have := place_of hR p hp
      rw [hid] at this
      omega
    · obtain ⟨p, hp, ep, eid, efirst⟩ := place_back id L 0 (by omega)
      have ep' : place id L 0 = (p : Int) := by rw [ep]; congr 1; omega
      have q0 : (p : Int) ≥ 0 := Int.natCast_nonneg p
      have q1 : (0 : Int) ≤ (p : Int) := Int.natCast_nonneg p
      have q2 : (p : Int) < (L.length : Int) := Int.ofNat_lt.2 hp
      have same : ∀ p', ∀ hp' : p' < L.length, L[p'].f1 = id → p' = p := fun p' hp' e => by
        have h1 := place_of hR p' hp'
        rw [e, ep'] at h1
        omega
      simp only [ep', if_pos q0, if_pos q1, if_pos q2, rd43 L p hp]
      by_cases c : L[p].f0.toList = s.toList
      · simp only [if_pos c]
        refine ⟨_, rfl, rfl, fun _ p' hp' hid _ => ?_⟩
        have := same p' hp' hid
        subst this
        rfl
      · simp only [if_neg c]
        refine ⟨_, rfl, rfl, fun _ p' hp' hid hd => ?_⟩
        have := same p' hp' hid
        subst this
        exact absurd hd c
  · rw [if_neg cb, if_neg cb]
    exact ⟨_, rfl, rfl, fun hR => absurd (g.2 hR) cb⟩
end Go.Proofs.YtfijkimkdccioaaDoor.QFnDialback
