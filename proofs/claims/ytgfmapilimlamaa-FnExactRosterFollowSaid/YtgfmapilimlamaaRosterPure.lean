/- Plain: the roster that follows, by the program and by the reference: alike. -/
import Derived.Test.YtgfmapilimlamaaRosterMark
import Derived.Test.YtgfmapilimlamaaRosterPlain
import Derived.Test.YtgfmapilimlamaaQFnExactRosterFollowx1
import Derived.Test.YtgfmapilimlamaaQFnExactRosterFollowx2
set_option linter.unusedSimpArgs false
set_option linter.unusedVariables false
namespace Go.Proofs.Ytgfmapilimlamaa.QFnExactRosterFollow
open Go Go.RowKit Go.Proofs.YtgfmapilimlamaaW.PrintWords Go.Proofs.Ytgfmapilimlamaa.RosterPlain

def less (a b : S33) : Bool := Op.bytesLess a.f0.toList b.f0.toList
/-- In the order of their jids. -/
def Sorted (l : List S33) : Prop := ∀ (i j : Nat) (hj : j < l.length) (hij : i < j), less (l[i]'(by omega)) l[j] = true

/-! ### the search -/
theorem cmp_less (x y : ByteArray) : (impl_itemAt.cmpS x y < 0) ↔ Op.bytesLess x.toList y.toList = true := by
  unfold impl_itemAt.cmpS
  by_cases c : Op.bytesLess x.toList y.toList = true
  · rw [if_pos c]; exact ⟨fun _ => c, fun _ => by decide⟩
  · rw [if_neg c]
    split
    · exact ⟨fun h => absurd h (by decide), fun h => absurd h c⟩
    · exact ⟨fun h => absurd h (by decide), fun h => absurd h c⟩
theorem bs_search (l : List S33) (y : ByteArray) : ∀ (k i j : Nat), i ≤ j → j ≤ l.length → impl_itemAt.bs l y k i j = search (fun t => Op.bytesLess (rd_T33 l (t : Int)).f0.toList y.toList) k i j
  | 0, i, j, _, _ => rfl
  | k + 1, i, j, h1, h2 => by
    unfold impl_itemAt.bs search
    by_cases c : i < j
    · rw [if_pos c, if_pos c]
      by_cases q : Op.bytesLess (rd_T33 l (((i + j) / 2 : Nat) : Int)).f0.toList y.toList = true
      · rw [if_pos ((cmp_less _ _).2 q), if_pos q]
        exact bs_search l y k _ j (by omega) h2
      · rw [if_neg (fun h => q ((cmp_less _ _).1 h)), if_neg q]
        exact bs_search l y k i _ (by omega) (by omega)
    · rw [if_neg c, if_neg c]
/-- Where a jid belongs: all ahead are less, none behind is. -/
structure Place (l : List S33) (y : ByteArray) (p : Nat) : Prop where
  le : p ≤ l.length
  ahead : ∀ t (h : t < l.length), t < p → Op.bytesLess l[t].f0.toList y.toList = true
  behind : ∀ t (h : t < l.length), p ≤ t → Op.bytesLess l[t].f0.toList y.toList = false
theorem place_bs (l : List S33) (hs : Sorted l) (y : ByteArray) : Place l y (impl_itemAt.bs l y (l.length + 1) 0 l.length) := by
  rw [bs_search l y _ 0 l.length (Nat.zero_le _) (Nat.le_refl _)]
  have h := search_spec (fun t => Op.bytesLess (rd_T33 l (t : Int)).f0.toList y.toList) l.length (fun i j hij hj hp => by
    replace hp : Op.bytesLess (rd_T33 l (j : Int)).f0.toList y.toList = true := hp
    show Op.bytesLess (rd_T33 l (i : Int)).f0.toList y.toList = true
    rw [rd33 l j hj] at hp
    rw [rd33 l i (by omega)]
    rcases Nat.lt_or_eq_of_le hij with h | h
    · exact less_trans _ _ _ (hs i j hj h) hp
    · subst h; exact hp) (l.length + 1) 0 l.length (Nat.zero_le _) (Nat.le_refl _) (by omega) (fun t ht => by omega) (fun t h1 h2 => by omega)
  refine ⟨h.1, fun t ht hlt => ?_, fun t ht hle => ?_⟩
  · have h1 : Op.bytesLess (rd_T33 l (t : Int)).f0.toList y.toList = true := h.2.1 t hlt
    rwa [rd33 l t ht] at h1
  · have h1 : Op.bytesLess (rd_T33 l (t : Int)).f0.toList y.toList = false := h.2.2 t hle ht
    rwa [rd33 l t ht] at h1
theorem found_iff (l : List S33) (y : ByteArray) (p : Nat) (hp : Place l y p) : impl_itemAt.found l y p = true ↔ ∃ h : p < l.length, l[p].f0.toList = y.toList := by
  unfold impl_itemAt.found
  by_cases c : p < l.length
  · rw [if_pos c, rd33 l p c]
    unfold impl_itemAt.cmpS
    rw [if_neg (by rw [hp.behind p c (Nat.le_refl _)]; decide)]
    by_cases e : l[p].f0.toList = y.toList
    · rw [if_pos (by rw [e]; exact beq_self_eq_true _)]
      exact ⟨fun _ => ⟨c, e⟩, fun _ => rfl⟩
    · rw [if_neg (fun h => e (eq_of_beq h))]
      exact ⟨fun h => absurd h (by decide), fun ⟨_, h⟩ => absurd h e⟩
  · rw [if_neg c]
    exact ⟨fun h => absurd h (by decide), fun ⟨h, _⟩ => absurd h c⟩

/-! ### an item is put into its place -/
theorem put_here (l : List S33) (hl : l.length ≤ 1000000) (a b c : ByteArray) (d : Int) (e : Bool) (i : Nat) (hp : Place l a i) (k : Nat) :
    spec_l07Put.l0 (k + 1) l (i : Int) a b c d e = some (if impl_itemAt.found l a i = true then l.set i ⟨a, b, c, d, e⟩ else l.take i ++ ⟨a, b, c, d, e⟩ :: l.drop i) := by
  have hle := hp.le
  have c2 : (0 : Int) ≤ (i : Int) := Int.natCast_nonneg i
  have c3 : (i : Int) ≤ (l.length : Int) := Int.ofNat_le.2 hle
  have ht : (l.take i).length = i := by rw [List.length_take]; omega
  have hd : (l.drop i).length = l.length - i := List.length_drop
  have hd1 : (l.drop (i + 1)).length = l.length - (i + 1) := List.length_drop
  have s1 : ([] : List S33).length + (l.take i).length < 2199023255552 := by rw [ht, List.length_nil]; omega
  have s2 : (l.take i).length < 2199023255552 := by rw [ht]; omega
  have s3 : (l.take i ++ [(⟨a, b, c, d, e⟩ : S33)]).length + (l.drop i).length < 2199023255552 := by rw [List.length_append, ht, hd, List.length_singleton]; omega
  have s4 : (l.take i ++ [(⟨a, b, c, d, e⟩ : S33)]).length + (l.drop (i + 1)).length < 2199023255552 := by rw [List.length_append, ht, hd1, List.length_singleton]; omega
  have tn : (i : Int).toNat = i := Int.toNat_natCast i
  rw [spec_l07Put.l0]
  by_cases hc : i < l.length
  · have c1 : (i : Int) < (l.length : Int) := Int.ofNat_lt.2 hc
    rw [if_pos c1, if_pos c2, rd33 l i hc, if_neg (by rw [hp.behind i hc (Nat.le_refl _)]; decide), Option.bind_some, if_pos c3, Option.bind_some, tn, if_pos s1, Option.bind_some, List.nil_append, if_pos s2, Option.bind_some]
    by_cases ee : l[i].f0.toList = a.toList
    · have w1 : wrap64 ((i : Int) + 1) = ((i + 1 : Nat) : Int) := by rw [wrap64_at _ (by omega)]; omega
      have w2 : ((i + 1 : Nat) : Int) ≤ (l.length : Int) := Int.ofNat_le.2 hc
      rw [if_pos ee, if_pos ((found_iff l a i hp).2 ⟨hc, ee⟩), w1, if_pos (Int.natCast_nonneg _), if_pos w2, Option.bind_some, Int.toNat_natCast, if_pos s4, List.append_assoc, List.singleton_append, List.set_eq_take_append_cons_drop, if_pos hc]
    · rw [if_neg ee, if_neg (fun h => ee ((found_iff l a i hp).1 h).2), Option.bind_some, if_pos s3, List.append_assoc, List.singleton_append]
  · have c1 : ¬ (i : Int) < (l.length : Int) := fun h => hc (Int.ofNat_lt.1 h)
    rw [if_neg c1, Option.bind_some, if_pos c2, if_pos c3, Option.bind_some, tn, if_pos s1, Option.bind_some, List.nil_append, if_pos s2, Option.bind_some, Option.bind_some, if_pos s3, if_neg (fun h => hc ((found_iff l a i hp).1 h).1), List.append_assoc, List.singleton_append]
theorem put_loop (l : List S33) (hl : l.length ≤ 1000000) (a b c : ByteArray) (d : Int) (e : Bool) (p : Nat) (hp : Place l a p) (q : Nat) : ∀ (i k : Nat), i + q = p → q < k →
    spec_l07Put.l0 k l (i : Int) a b c d e = some (if impl_itemAt.found l a p = true then l.set p ⟨a, b, c, d, e⟩ else l.take p ++ ⟨a, b, c, d, e⟩ :: l.drop p) := by
  induction q with
  | zero =>
    intro i k h1 h2
    obtain ⟨k, rfl⟩ : ∃ k', k = k' + 1 := ⟨k - 1, by omega⟩
    have : i = p := by omega
    subst this
    exact put_here l hl a b c d e i hp k
  | succ q ih =>
    intro i k h1 h2
    obtain ⟨k, rfl⟩ : ∃ k', k = k' + 1 := ⟨k - 1, by omega⟩
    have hle := hp.le
    have hc : i < l.length := by omega
    have c1 : (i : Int) < (l.length : Int) := Int.ofNat_lt.2 hc
    have w1 : wrap64 ((i : Int) + 1) = ((i + 1 : Nat) : Int) := by rw [wrap64_at _ (by omega)]; omega
    rw [spec_l07Put.l0, if_pos c1, if_pos (Int.natCast_nonneg i), rd33 l i hc, if_pos (hp.ahead i hc (by omega)), w1]
    exact ih (i + 1) k (by omega) (by omega)

/-! ### an item is sought -/
theorem at_loop (l : List S33) (hl : l.length ≤ 1000000) (y : ByteArray) (r : Int) : ∀ (q i k p : Nat), i + q = p → p ≤ l.length → q < k → (∀ t (h : t < l.length), i ≤ t → t < p → ¬ l[t].f0.toList = y.toList) →
    ((∃ h : p < l.length, l[p].f0.toList = y.toList ∧ r = (p : Int)) ∨ (p = l.length ∧ r = -1)) → spec_l07At.l0 k l y (i : Int) = some r
  | q, i, 0, p, _, _, h, _, _ => by omega
  | 0, i, k + 1, p, h1, h2, h3, h4, h5 => by
    have : i = p := by omega
    subst this
    rw [spec_l07At.l0]
    rcases h5 with ⟨hc, he, rfl⟩ | ⟨hc, rfl⟩
    · rw [if_pos (by omega), if_pos (by omega), rd33 l i hc, if_pos he]
    · rw [if_neg (by omega)]
  | q + 1, i, k + 1, p, h1, h2, h3, h4, h5 => by
    have hc : i < l.length := by omega
    rw [spec_l07At.l0, if_pos (by omega), if_pos (by omega), rd33 l i hc, if_neg (h4 i hc (Nat.le_refl _) (by omega)), wrap64_at _ (by omega), show (i : Int) + 1 = ((i + 1 : Nat) : Int) by omega]
    exact at_loop l hl y r q (i + 1) k p (by omega) h2 (by omega) (fun t h ht1 ht2 => h4 t h (by omega) ht2) h5
theorem at_found (l : List S33) (hl : l.length ≤ 1000000) (y : ByteArray) (p : Nat) (hp : Place l y p) (hf : impl_itemAt.found l y p = true) (k : Nat) (hk : l.length < k) : spec_l07At.f k l y = some (p : Int) := by
  obtain ⟨hc, he⟩ := (found_iff l y p hp).1 hf
  unfold spec_l07At.f
  refine at_loop l hl y (p : Int) p 0 k p (by omega) hp.le (by omega) (fun t h _ ht e => ?_) (.inl ⟨hc, he, rfl⟩)
  have := hp.ahead t h ht
  rw [e, less_irrefl] at this
  cases this
theorem at_none (l : List S33) (hs : Sorted l) (hl : l.length ≤ 1000000) (y : ByteArray) (p : Nat) (hp : Place l y p) (hf : ¬ impl_itemAt.found l y p = true) (k : Nat) (hk : l.length < k) : spec_l07At.f k l y = some (-1) := by
  unfold spec_l07At.f
  refine at_loop l hl y (-1) l.length 0 k l.length (by omega) (Nat.le_refl _) hk (fun t h _ _ e => ?_) (.inr ⟨rfl, rfl⟩)
  by_cases ht : t < p
  · have := hp.ahead t h ht
    rw [e, less_irrefl] at this
    cases this
  · have hpl : p < l.length := by omega
    have hne : ¬ l[p].f0.toList = y.toList := fun h => hf ((found_iff l y p hp).2 ⟨hpl, h⟩)
    by_cases htp : t = p
    · subst htp; exact hne e
    · have h1 := hs p t h (by omega)
      unfold less at h1
      rw [e, hp.behind p hpl (Nat.le_refl _)] at h1
      cases h1

/-! ### the order is kept -/
theorem sorted_of (l : List S33) (h : ∀ j (hj : j < l.length) (h0 : 0 < j), less (l[j - 1]'(by omega)) l[j] = true) : Sorted l := by
  intro i j hj hij
  induction j with
  | zero => omega
  | succ j ih =>
    have h1 := h (j + 1) hj (by omega)
    rcases Nat.lt_or_eq_of_le (Nat.le_of_lt_succ hij) with hlt | heq
    · exact less_trans _ _ _ (ih (by omega) hlt) h1
    · subst heq; exact h1
theorem sorted_pair (l : List S33) : Sorted l ↔ l.Pairwise (fun a b => less a b = true) := by
  rw [List.pairwise_iff_getElem]
  exact ⟨fun h i j hi hj hij => h i j hj hij, fun h i j hj hij => h i j (by omega) hj hij⟩
theorem sorted_erase (l : List S33) (hs : Sorted l) (p : Nat) : Sorted (l.eraseIdx p) := by
  rw [sorted_pair] at hs ⊢
  exact hs.sublist (List.eraseIdx_sublist _ _)
theorem sorted_set (l : List S33) (hs : Sorted l) (p : Nat) (x : S33) (h : p < l.length) (he : l[p].f0.toList = x.f0.toList) : Sorted (l.set p x) := by
  intro i j hj hij
  rw [List.length_set] at hj
  have h1 := hs i j hj hij
  unfold less at h1 ⊢
  have key : ∀ t (ht : t < l.length), ((l.set p x)[t]'(by rw [List.length_set]; exact ht)).f0.toList = l[t].f0.toList := fun t ht => by
    rw [List.getElem_set]
    split
    · rename_i e; subst e; exact he.symm
    · rfl
  rw [key i (by omega), key j hj]
  exact h1
theorem sorted_insert (l : List S33) (hs : Sorted l) (x : S33) (p : Nat) (hp : Place l x.f0 p) (hf : ¬ impl_itemAt.found l x.f0 p = true) : Sorted (l.take p ++ x :: l.drop p) := by
  have hs' := (sorted_pair l).1 hs
  rw [sorted_pair, List.pairwise_append]
  have hle := hp.le
  refine ⟨hs'.sublist (List.take_sublist _ _), List.pairwise_cons.2 ⟨fun b hb => ?_, hs'.sublist (List.drop_sublist _ _)⟩, fun a ha b hb => ?_⟩
  · obtain ⟨t, ht, rfl⟩ := List.mem_iff_getElem.1 hb
    rw [List.length_drop] at ht
    rw [List.getElem_drop]
    have h1 := hp.behind (p + t) (by omega) (by omega)
    unfold less
    cases hq : Op.bytesLess x.f0.toList l[p + t].f0.toList with
    | true => rfl
    | false =>
      exfalso
      have e := less_tri _ _ h1 hq
      have hpl : p < l.length := by omega
      have hne : ¬ l[p].f0.toList = x.f0.toList := fun h => hf ((found_iff l x.f0 p hp).2 ⟨hpl, h⟩)
      by_cases ht0 : t = 0
      · subst ht0; exact hne e
      · have h2 := hs p (p + t) (by omega) (by omega)
        unfold less at h2
        rw [e, hp.behind p hpl (Nat.le_refl _)] at h2
        cases h2
  · obtain ⟨t, ht, rfl⟩ := List.mem_iff_getElem.1 ha
    rw [List.length_take] at ht
    rw [List.getElem_take]
    have hx := hp.ahead t (by omega) (by omega)
    rcases List.mem_cons.1 hb with rfl | hb
    · exact hx
    · obtain ⟨s, hs1, rfl⟩ := List.mem_iff_getElem.1 hb
      rw [List.length_drop] at hs1
      rw [List.getElem_drop]
      exact hs t (p + s) (by omega) (by omega)

/-! ### the changes, one by one -/
theorem step_end (l1 x : List S33) (K : Nat) : spec_RosterFollow.l1 (K + 1) l1 x (l1.length : Int) = some x ∧ impl_RosterFollow.l1 (K + 1) x l1 (l1.length : Int) (l1.length : Int) = some x := by
  rw [spec_RosterFollow.l1, impl_RosterFollow.l1, if_neg (Int.lt_irrefl _), if_neg (Int.lt_irrefl _)]
  exact ⟨rfl, rfl⟩
section
variable (l1 : List S33) (hl1 : l1.length ≤ 1000) (i : Nat) (hi : i < l1.length) (x : List S33) (hs : Sorted x) (hx : x.length ≤ 100000) (p : Nat) (hpe : p = impl_itemAt.bs x (l1[i]).f0 (x.length + 1) 0 x.length) (K : Nat) (hK : x.length < K)
include hl1 hs hx hpe hK
theorem step_drop (hg : (l1[i]).f4 = true) (hf : impl_itemAt.found x (l1[i]).f0 p = true) :
    spec_RosterFollow.l1 (K + 1) l1 x (i : Int) = spec_RosterFollow.l1 K l1 (x.eraseIdx p) ((i + 1 : Nat) : Int) ∧ impl_RosterFollow.l1 (K + 1) x l1 (l1.length : Int) (i : Int) = impl_RosterFollow.l1 K (x.eraseIdx p) l1 (l1.length : Int) ((i + 1 : Nat) : Int) := by
  have hp := place_bs x hs (l1[i]).f0
  rw [← hpe] at hp
  obtain ⟨hc, he⟩ := (found_iff x _ p hp).1 hf
  have hat := at_found x (by omega) _ p hp hf K hK
  have hil : (i : Int) < (l1.length : Int) := Int.ofNat_lt.2 hi
  have h0 : (0 : Int) ≤ (i : Int) := Int.natCast_nonneg i
  have hw : wrap64 ((i : Int) + 1) = ((i + 1 : Nat) : Int) := by rw [wrap64_at _ (by omega)]; omega
  have q1 : (0 : Int) ≤ (p : Int) := Int.natCast_nonneg p
  have q1' : (p : Int) ≥ 0 := q1
  have q2 : (p : Int) < (x.length : Int) := Int.ofNat_lt.2 hc
  have q2' : (p : Int) ≤ (x.length : Int) := Int.le_of_lt q2
  have q3 : wrap64 ((p : Int) + 1) = ((p + 1 : Nat) : Int) := by rw [wrap64_at _ (by omega)]; omega
  have q4 : (0 : Int) ≤ ((p + 1 : Nat) : Int) := Int.natCast_nonneg _
  have q5 : ((p + 1 : Nat) : Int) ≤ (x.length : Int) := Int.ofNat_le.2 hc
  have ht : (x.take p).length = p := by rw [List.length_take]; omega
  have hd : (x.drop (p + 1)).length = x.length - (p + 1) := List.length_drop
  have s1 : ([] : List S33).length + (x.take p).length < 2199023255552 := by rw [ht, List.length_nil]; omega
  have s2 : (x.take p).length + (x.drop (p + 1)).length < 2199023255552 := by rw [ht, hd]; omega
  constructor
  · rw [spec_RosterFollow.l1, if_pos hil, if_pos h0, rd33 l1 i hi, if_pos hg, hat, Option.bind_some, if_pos q1', Option.bind_some, if_pos q1, if_pos q2', Option.bind_some, Int.toNat_natCast, if_pos s1, Option.bind_some, q3, if_pos q4, if_pos q5, Option.bind_some, Int.toNat_natCast, List.nil_append, if_pos s2, ← List.eraseIdx_eq_take_drop_succ, hw]
  · have e1 : impl_itemAt.f x (l1[i]).f0 = some ((p : Int), true) := by
      unfold impl_itemAt.f
      rw [if_pos (by omega), ← hpe, hf]
    have e2 : impl_Item_18.f x (p : Int) ((p + 1 : Nat) : Int) = some (x.eraseIdx p) := by
      unfold impl_Item_18.f
      rw [if_pos q1, if_pos q2, if_pos (by omega), Int.toNat_natCast]
    rw [impl_RosterFollow.l1, if_pos hil, if_pos h0, if_pos hil, rd33 l1 i hi, if_pos hg, e1, Option.bind_some]
    dsimp only
    rw [if_pos rfl, q3, e2, Option.bind_some, hw]
theorem step_keep (hg : (l1[i]).f4 = true) (hf : ¬ impl_itemAt.found x (l1[i]).f0 p = true) :
    spec_RosterFollow.l1 (K + 1) l1 x (i : Int) = spec_RosterFollow.l1 K l1 x ((i + 1 : Nat) : Int) ∧ impl_RosterFollow.l1 (K + 1) x l1 (l1.length : Int) (i : Int) = impl_RosterFollow.l1 K x l1 (l1.length : Int) ((i + 1 : Nat) : Int) := by
  have hp := place_bs x hs (l1[i]).f0
  rw [← hpe] at hp
  have hat := at_none x hs (by omega) _ p hp hf K hK
  have hil : (i : Int) < (l1.length : Int) := Int.ofNat_lt.2 hi
  have h0 : (0 : Int) ≤ (i : Int) := Int.natCast_nonneg i
  have hw : wrap64 ((i : Int) + 1) = ((i + 1 : Nat) : Int) := by rw [wrap64_at _ (by omega)]; omega
  constructor
  · rw [spec_RosterFollow.l1, if_pos hil, if_pos h0, rd33 l1 i hi, if_pos hg, hat, Option.bind_some, if_neg (by decide), hw]
  · have e1 : impl_itemAt.f x (l1[i]).f0 = some ((p : Int), false) := by
      unfold impl_itemAt.f
      rw [if_pos (by omega), ← hpe, Bool.eq_false_iff.2 hf]
    rw [impl_RosterFollow.l1, if_pos hil, if_pos h0, if_pos hil, rd33 l1 i hi, if_pos hg, e1, Option.bind_some]
    dsimp only
    rw [if_neg (by decide), hw]
theorem step_put (hg : ¬ (l1[i]).f4 = true) (z : List S33) (hz : z = (if impl_itemAt.found x (l1[i]).f0 p = true then x.set p (l1[i]) else x.take p ++ (l1[i]) :: x.drop p)) :
    spec_RosterFollow.l1 (K + 1) l1 x (i : Int) = spec_RosterFollow.l1 K l1 z ((i + 1 : Nat) : Int) ∧ impl_RosterFollow.l1 (K + 1) x l1 (l1.length : Int) (i : Int) = impl_RosterFollow.l1 K z l1 (l1.length : Int) ((i + 1 : Nat) : Int) := by
  have hp := place_bs x hs (l1[i]).f0
  rw [← hpe] at hp
  have hle := hp.le
  have hput := put_loop x (by omega) (l1[i]).f0 (l1[i]).f1 (l1[i]).f2 (l1[i]).f3 (l1[i]).f4 p hp p 0 K (by omega) (by omega)
  have hpl : impl_placed.f x (l1[i]).f0 (l1[i]).f1 (l1[i]).f2 (l1[i]).f3 (l1[i]).f4 = some z := by
    unfold impl_placed.f
    rw [if_pos (by omega), ← hpe, hz]
    split
    · rfl
    · rfl
  have hput' : spec_l07Put.f K x (l1[i]).f0 (l1[i]).f1 (l1[i]).f2 (l1[i]).f3 (l1[i]).f4 = some z := by
    rw [hz]
    exact hput
  have hil : (i : Int) < (l1.length : Int) := Int.ofNat_lt.2 hi
  have h0 : (0 : Int) ≤ (i : Int) := Int.natCast_nonneg i
  have hw : wrap64 ((i : Int) + 1) = ((i + 1 : Nat) : Int) := by rw [wrap64_at _ (by omega)]; omega
  constructor
  · rw [spec_RosterFollow.l1, if_pos hil, if_pos h0, rd33 l1 i hi, if_neg hg, hput', Option.bind_some, hw]
  · rw [impl_RosterFollow.l1, if_pos hil, if_pos h0, if_pos hil, rd33 l1 i hi, if_neg hg, hpl, Option.bind_some, hw]
end
theorem follow_loop (l1 : List S33) (hl1 : l1.length ≤ 1000) (d : Nat) : ∀ (i : Nat) (x : List S33), i + d = l1.length → Sorted x → x.length + d ≤ 100000 →
    ∃ r : List S33, r.length ≤ 100000 ∧ ∀ K, d + 100010 ≤ K → spec_RosterFollow.l1 K l1 x (i : Int) = some r ∧ impl_RosterFollow.l1 K x l1 (l1.length : Int) (i : Int) = some r := by
  induction d with
  | zero =>
    intro i x h1 hs hx
    refine ⟨x, by omega, fun K hK => ?_⟩
    obtain ⟨K, rfl⟩ : ∃ k, K = k + 1 := ⟨K - 1, by omega⟩
    have : i = l1.length := by omega
    subst this
    exact step_end l1 x K
  | succ d ih =>
    intro i x h1 hs hx
    have hi : i < l1.length := by omega
    have hp := place_bs x hs (l1[i]).f0
    obtain ⟨p, hpe⟩ : ∃ p, p = impl_itemAt.bs x (l1[i]).f0 (x.length + 1) 0 x.length := ⟨_, rfl⟩
    rw [← hpe] at hp
    have hle := hp.le
    by_cases hg : (l1[i]).f4 = true
    · by_cases hf : impl_itemAt.found x (l1[i]).f0 p = true
      · obtain ⟨hc, he⟩ := (found_iff x _ p hp).1 hf
        have hel : (x.eraseIdx p).length = x.length - 1 := List.length_eraseIdx_of_lt hc
        obtain ⟨r, hr, hK⟩ := ih (i + 1) (x.eraseIdx p) (by omega) (sorted_erase x hs p) (by omega)
        refine ⟨r, hr, fun K hK2 => ?_⟩
        obtain ⟨K, rfl⟩ : ∃ k, K = k + 1 := ⟨K - 1, by omega⟩
        obtain ⟨e1, e2⟩ := hK K (by omega)
        obtain ⟨f1, f2⟩ := step_drop l1 hl1 i hi x hs (by omega) p hpe K (by omega) hg hf
        exact ⟨f1.trans e1, f2.trans e2⟩
      · obtain ⟨r, hr, hK⟩ := ih (i + 1) x (by omega) hs (by omega)
        refine ⟨r, hr, fun K hK2 => ?_⟩
        obtain ⟨K, rfl⟩ : ∃ k, K = k + 1 := ⟨K - 1, by omega⟩
        obtain ⟨e1, e2⟩ := hK K (by omega)
        obtain ⟨f1, f2⟩ := step_keep l1 hl1 i hi x hs (by omega) p hpe K (by omega) hg hf
        exact ⟨f1.trans e1, f2.trans e2⟩
    · obtain ⟨z, hz⟩ : ∃ z, z = (if impl_itemAt.found x (l1[i]).f0 p = true then x.set p (l1[i]) else x.take p ++ (l1[i]) :: x.drop p) := ⟨_, rfl⟩
      have hzs : Sorted z ∧ z.length ≤ x.length + 1 := by
        by_cases hf : impl_itemAt.found x (l1[i]).f0 p = true
        · obtain ⟨hc, he⟩ := (found_iff x _ p hp).1 hf
          rw [if_pos hf] at hz
          subst hz
          exact ⟨sorted_set x hs p _ hc he, by rw [List.length_set]; omega⟩
        · rw [if_neg hf] at hz
          subst hz
          exact ⟨sorted_insert x hs _ p hp hf, by simp only [List.length_append, List.length_cons, List.length_take, List.length_drop]; omega⟩
      obtain ⟨r, hr, hK⟩ := ih (i + 1) z (by omega) hzs.1 (by have := hzs.2; omega)
      refine ⟨r, hr, fun K hK2 => ?_⟩
      obtain ⟨K, rfl⟩ : ∃ k, K = k + 1 := ⟨K - 1, by omega⟩
      obtain ⟨e1, e2⟩ := hK K (by omega)
      obtain ⟨f1, f2⟩ := step_put l1 hl1 i hi x hs (by omega) p hpe K (by omega) hg z hz
      exact ⟨f1.trans e1, f2.trans e2⟩

/-! ### the roster's own order -/
theorem check_loop (l l1 : List S33) (hl : l.length ≤ 1000) (hl1 : l1.length ≤ 1000) : ∀ (d i : Nat), i + d = l.length →
    ((∀ j (hj : j < l.length) (hij : i ≤ j) (h0 : 0 < j), less (l[j - 1]'(by omega)) l[j] = true) ∧ ∀ k, spec_RosterFollow.l0 (k + d + 1) l l1 [] (i : Int) = spec_RosterFollow.l1 k l1 l 0 ∧ impl_RosterFollow.l0 (k + d + 1) l l1 l (l.length : Int) (i : Int) = impl_RosterFollow.l1 k l l1 (l1.length : Int) 0) ∨
      (∀ k, spec_RosterFollow.l0 (k + d + 1) l l1 [] (i : Int) = some [] ∧ impl_RosterFollow.l0 (k + d + 1) l l1 l (l.length : Int) (i : Int) = some [])
  | 0, i, h => by
    refine .inl ⟨fun j hj hij h0 => by omega, fun k => ?_⟩
    have c1 : ¬ (i : Int) < (l.length : Int) := by omega
    have c2 : ([] : List S33).length + l.length < 2199023255552 := by rw [List.length_nil]; omega
    have e1 : impl_Item_15.f l = some l := by
      unfold impl_Item_15.f
      rw [if_pos (by omega)]
    constructor
    · rw [spec_RosterFollow.l0, if_neg c1, if_pos c2, List.nil_append]
    · rw [impl_RosterFollow.l0, if_neg c1, e1]
      rfl
  | d + 1, i, h => by
    have hi : i < l.length := by omega
    have hil : (i : Int) < (l.length : Int) := by omega
    have h0 : (0 : Int) ≤ (i : Int) := by omega
    have hw : wrap64 ((i : Int) + 1) = ((i + 1 : Nat) : Int) := by rw [wrap64_at _ (by omega)]; omega
    by_cases hg : l[i].f4 = true
    · refine .inr fun k => ?_
      rw [spec_RosterFollow.l0, impl_RosterFollow.l0]
      simp only [if_pos hil, if_pos h0, rd33 l i hi, if_pos hg]
      exact ⟨trivial, trivial⟩
    · by_cases hp : 0 < i
      · have hp' : (i : Int) > 0 := by omega
        have hw1 : wrap64 ((i : Int) - 1) = ((i - 1 : Nat) : Int) := by rw [wrap64_at _ (by omega)]; omega
        have h2 : (0 : Int) ≤ ((i - 1 : Nat) : Int) := by omega
        have h3 : ((i - 1 : Nat) : Int) < (l.length : Int) := by omega
        by_cases hq : Op.bytesLess (l[i - 1]'(by omega)).f0.toList l[i].f0.toList = true
        · rcases check_loop l l1 hl hl1 d (i + 1) (by omega) with ⟨ha, hb⟩ | hb
          · refine .inl ⟨fun j hj hij h0j => ?_, fun k => ?_⟩
            · by_cases hji : j = i
              · subst hji; exact hq
              · exact ha j hj (by omega) h0j
            · obtain ⟨e1, e2⟩ := hb k
              rw [show k + (d + 1) + 1 = (k + d + 1) + 1 by omega, spec_RosterFollow.l0, impl_RosterFollow.l0]
              simp only [if_pos hil, if_pos h0, rd33 l i hi, if_neg hg, if_pos hp', hw1, if_pos h2, if_pos h3, rd33 l (i - 1) (by omega), if_pos hq, hw]
              exact ⟨e1, e2⟩
          · refine .inr fun k => ?_
            obtain ⟨e1, e2⟩ := hb k
            rw [show k + (d + 1) + 1 = (k + d + 1) + 1 by omega, spec_RosterFollow.l0, impl_RosterFollow.l0]
            simp only [if_pos hil, if_pos h0, rd33 l i hi, if_neg hg, if_pos hp', hw1, if_pos h2, if_pos h3, rd33 l (i - 1) (by omega), if_pos hq, hw]
            exact ⟨e1, e2⟩
        · refine .inr fun k => ?_
          rw [spec_RosterFollow.l0, impl_RosterFollow.l0]
          simp only [if_pos hil, if_pos h0, rd33 l i hi, if_neg hg, if_pos hp', hw1, if_pos h2, if_pos h3, rd33 l (i - 1) (by omega), if_neg hq]
          exact ⟨trivial, trivial⟩
      · have hp' : ¬ (i : Int) > 0 := by omega
        rcases check_loop l l1 hl hl1 d (i + 1) (by omega) with ⟨ha, hb⟩ | hb
        · refine .inl ⟨fun j hj hij h0j => ?_, fun k => ?_⟩
          · exact ha j hj (by omega) h0j
          · obtain ⟨e1, e2⟩ := hb k
            rw [show k + (d + 1) + 1 = (k + d + 1) + 1 by omega, spec_RosterFollow.l0, impl_RosterFollow.l0]
            simp only [if_pos hil, if_pos h0, rd33 l i hi, if_neg hg, if_neg hp', hw]
            exact ⟨e1, e2⟩
        · refine .inr fun k => ?_
          obtain ⟨e1, e2⟩ := hb k
          rw [show k + (d + 1) + 1 = (k + d + 1) + 1 by omega, spec_RosterFollow.l0, impl_RosterFollow.l0]
          simp only [if_pos hil, if_pos h0, rd33 l i hi, if_neg hg, if_neg hp', hw]
          exact ⟨e1, e2⟩

/-- The two rosters: alike. -/
theorem follow_alike (l l1 : List S33) : ∃ r : List S33, r.length ≤ 100000 ∧ ∀ K, l.length + 200000 ≤ K → spec_RosterFollow.f K l l1 = some r ∧ impl_RosterFollow.f K l l1 = some r := by
  unfold spec_RosterFollow.f impl_RosterFollow.f
  by_cases c : (l.length : Int) > 400
  · refine ⟨[], by simp, fun K hK => ?_⟩
    obtain ⟨K, rfl⟩ : ∃ k, K = k + 1 := ⟨K - 1, by omega⟩
    rw [Option.bind_some, if_pos c, if_pos c, spec_RosterFollow.j0, impl_RosterFollow.j0]
    exact ⟨rfl, rfl⟩
  · by_cases c1 : (l1.length : Int) > 400
    · refine ⟨[], by simp, fun K hK => ?_⟩
      obtain ⟨K, rfl⟩ : ∃ k, K = k + 1 := ⟨K - 1, by omega⟩
      rw [Option.bind_some, if_neg c, if_neg c, decide_eq_true c1, spec_RosterFollow.j0, impl_RosterFollow.j0]
      exact ⟨rfl, rfl⟩
    · have hj : ∀ K, spec_RosterFollow.j0 (K + 1) l l1 [] false = spec_RosterFollow.l0 K l l1 [] 0 ∧ impl_RosterFollow.j0 (K + 1) l l1 false = impl_RosterFollow.l0 K l l1 l (l.length : Int) 0 := fun K => ⟨rfl, rfl⟩
      rcases check_loop l l1 (by omega) (by omega) l.length 0 (by omega) with ⟨ha, hb⟩ | hb
      · have hs : Sorted l := sorted_of l (fun j hj h0 => ha j hj (Nat.zero_le _) h0)
        obtain ⟨r, hr, hK⟩ := follow_loop l1 (by omega) l1.length 0 l (by omega) hs (by omega)
        refine ⟨r, hr, fun K hK2 => ?_⟩
        obtain ⟨k, rfl⟩ : ∃ k, K = (k + l.length + 1) + 1 := ⟨K - l.length - 2, by omega⟩
        obtain ⟨e1, e2⟩ := hb k
        obtain ⟨f1, f2⟩ := hK k (by omega)
        rw [Option.bind_some, if_neg c, if_neg c, decide_eq_false c1, (hj _).1, (hj _).2]
        exact ⟨e1.trans f1, e2.trans f2⟩
      · refine ⟨[], by simp, fun K hK2 => ?_⟩
        obtain ⟨k, rfl⟩ : ∃ k, K = (k + l.length + 1) + 1 := ⟨K - l.length - 2, by omega⟩
        rw [Option.bind_some, if_neg c, if_neg c, decide_eq_false c1, (hj _).1, (hj _).2]
        exact hb k
end Go.Proofs.Ytgfmapilimlamaa.QFnExactRosterFollow
