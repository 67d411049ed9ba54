/- Plain: what is marked is held; what is alike is alike. -/
import Derived.Test.YtgfmapilimlamaaQFnExactRosterFollowx6
set_option linter.unusedSimpArgs false
set_option linter.unusedVariables false
namespace Go.Proofs.Ytgfmapilimlamaa.QFnExactRosterFollow
open Go Go.RowKit Go.Proofs.YtgfmapilimlamaaW.PrintWords

theorem wrap64_at (n : Int) (h : -9223372036854775808 ≤ n ∧ n ≤ 9223372036854775807) : wrap64 n = n := by unfold wrap64; omega
/-! ### steps -/
theorem bs {α β : Type} {x : Option α} {v : α} {f : α → Option β} {r : Option β} (h : x = some v) (k : f v = r) : x.bind f = r := by subst h; exact k
theorem it {β : Type} {A B r : β} {d : Decidable (true = true)} (h : A = r) : (@ite _ (true = true) d A B) = r := (if_pos rfl).trans h
/-! ### the text of a number -/
theorem mtext_loop : ∀ (d : Nat) (x : Nat) (acc : ByteArray), x < 10 ^ d → x ≤ 1000000000000000000 → acc.size + d ≤ 1000 → ∃ t : ByteArray, t.size ≤ acc.size + d + 1 ∧ ∀ K, d + 1 ≤ K → laws_markText.l0 K (x : Int) acc = some t
  | 0, x, acc, hx, hx2, ha => by
    have : x = 0 := by simpa using hx
    subst this
    refine ⟨(⟨#[109]⟩ : ByteArray) ++ acc, ?_, fun K hK => ?_⟩
    · rw [ByteArray.size_append]; show 1 + acc.size ≤ _; omega
    · obtain ⟨K, rfl⟩ : ∃ k, K = k + 1 := ⟨K - 1, by omega⟩
      rw [laws_markText.l0, if_neg (by decide), if_pos (by omega)]
  | d + 1, x, acc, hx, hx2, ha => by
    by_cases c : x = 0
    · subst c
      refine ⟨(⟨#[109]⟩ : ByteArray) ++ acc, ?_, fun K hK => ?_⟩
      · rw [ByteArray.size_append]; show 1 + acc.size ≤ _; omega
      · obtain ⟨K, rfl⟩ : ∃ k, K = k + 1 := ⟨K - 1, by omega⟩
        rw [laws_markText.l0, if_neg (by decide), if_pos (by omega)]
    · generalize hs : strOfNums ([(wrap64 (48 + (Int.tmod (x : Int) 10))) % 256] : List Int) = s
      have hs1 : s.size = 1 := by rw [← hs]; rfl
      have hsz : (s ++ acc).size = acc.size + 1 := by rw [ByteArray.size_append, hs1]; omega
      obtain ⟨t, ht, hK⟩ := mtext_loop d (x / 10) (s ++ acc) (by rw [Nat.pow_succ] at hx; omega) (by omega) (by omega)
      refine ⟨t, by omega, fun K hK' => ?_⟩
      obtain ⟨K, rfl⟩ : ∃ k, K = k + 1 := ⟨K - 1, by omega⟩
      have hw : wrap64 (Int.tdiv (x : Int) 10) = ((x / 10 : Nat) : Int) := by
        have e : Int.tdiv (x : Int) 10 = ((x / 10 : Nat) : Int) := by rw [Int.tdiv_eq_ediv_of_nonneg (by omega)]; omega
        rw [e]
        exact wrap64_at _ (by omega)
      rw [laws_markText.l0, if_pos (by omega)]
      simp only [Option.bind_some]
      rw [hs, if_pos (by omega), hw]
      exact hK K (by omega)
theorem mtext (x : Nat) (h0 : 1 ≤ x) (h : x ≤ 1000000000000000) : ∃ t : ByteArray, ∀ K, 30 ≤ K → laws_markText.f K (x : Int) = some t := by
  have h19 : (10 : Nat) ^ 19 = 10000000000000000000 := by decide
  obtain ⟨t, _, hK⟩ := mtext_loop 19 x (⟨#[]⟩ : ByteArray) (by omega) (by omega) (by decide)
  refine ⟨t, fun K h30 => ?_⟩
  unfold laws_markText.f
  rw [if_neg (by omega)]
  exact hK K (by omega)

theorem rd33 (l : List S33) (i : Nat) (h : i < l.length) : rd_T33 l (i : Int) = l[i] := by
  unfold rd_T33
  rw [Int.toNat_natCast, List.getD_eq_getElem?_getD, List.getElem?_eq_getElem h]
  rfl
/-! ### marked, held -/
theorem mark_loop (d : Nat) : ∀ (i k1 : Nat) (l : List S33), i + d = l.length → 1 ≤ k1 → k1 + 5 * d ≤ 100000000000000 → l.length ≤ 100000000000000 →
    ∃ l' : List S33, l'.length = l.length ∧ (∀ j, j < i → l'[j]? = l[j]?) ∧ (∀ K, d + 40 ≤ K → laws_markItemS.l0 K l (k1 : Int) (i : Int) = some (((k1 + 5 * d : Nat) : Int), l')) ∧
      (∀ K, d + 40 ≤ K → laws_heldItemS.l0 K l' (k1 : Int) (i : Int) = some ((k1 + 5 * d : Nat) : Int)) := by
  induction d with
  | zero =>
    intro i k1 l h1 h2 h3 h4
    refine ⟨l, rfl, fun j _ => rfl, fun K hK => ?_, fun K hK => ?_⟩ <;> obtain ⟨K, rfl⟩ : ∃ k, K = k + 1 := ⟨K - 1, by omega⟩
    · rw [laws_markItemS.l0, if_neg (by omega)]; rfl
    · rw [laws_heldItemS.l0, if_neg (by omega)]; rfl
  | succ d ih =>
    intro i k1 l h1 h2 h3 h4
    obtain ⟨t1, ht1⟩ := mtext k1 h2 (by omega)
    obtain ⟨t2, ht2⟩ := mtext (k1 + 1) (by omega) (by omega)
    obtain ⟨t3, ht3⟩ := mtext (k1 + 2) (by omega) (by omega)
    have w1 : wrap64 ((k1 : Int) + 1) = ((k1 + 1 : Nat) : Int) := by rw [wrap64_at _ (by omega)]; omega
    have w2 : wrap64 (((k1 + 1 : Nat) : Int) + 1) = ((k1 + 2 : Nat) : Int) := by rw [wrap64_at _ (by omega)]; omega
    have w3 : wrap64 (((k1 + 2 : Nat) : Int) + 1) = ((k1 + 3 : Nat) : Int) := by rw [wrap64_at _ (by omega)]; omega
    have w4 : wrap64 (((k1 + 3 : Nat) : Int) + 1) = ((k1 + 4 : Nat) : Int) := by rw [wrap64_at _ (by omega)]; omega
    have w5 : wrap64 (((k1 + 4 : Nat) : Int) + 1) = ((k1 + 5 : Nat) : Int) := by rw [wrap64_at _ (by omega)]; omega
    have wi : wrap64 ((i : Int) + 1) = ((i + 1 : Nat) : Int) := by rw [wrap64_at _ (by omega)]; omega
    have hi : i < l.length := by omega
    have hil : (i : Int) < (l.length : Int) := by omega
    obtain ⟨b, hb⟩ : ∃ b : Bool, b = ((Int.tmod ((k1 + 4 : Nat) : Int) 3) == 0) := ⟨_, rfl⟩
    generalize hl1 : l.set i (⟨t1, t2, t3, ((k1 + 3 : Nat) : Int), b⟩ : S33) = l1
    have hlen1 : l1.length = l.length := by rw [← hl1, List.length_set]
    obtain ⟨l', hlen, hpre, hm, hh⟩ := ih (i + 1) (k1 + 5) l1 (by omega) (by omega) (by omega) (by omega)
    have hget : l'[i]? = some (⟨t1, t2, t3, ((k1 + 3 : Nat) : Int), b⟩ : S33) := by
      rw [hpre i (by omega), ← hl1, List.getElem?_set_self hi]
    have hsum : k1 + 5 + 5 * d = k1 + 5 * (d + 1) := by omega
    rw [hsum] at hm hh
    refine ⟨l', by omega, fun j hj => ?_, fun K hK => ?_, fun K hK => ?_⟩
    · rw [hpre j (by omega), ← hl1, List.getElem?_set_ne (by omega)]
    · obtain ⟨K, rfl⟩ : ∃ k, K = k + 1 := ⟨K - 1, by omega⟩
      have rs : ∀ (m : List S33) (x : S33), i < m.length → rd_T33 (m.set i x) (i : Int) = x := fun m x hmi => by
        rw [rd33 _ i (by rw [List.length_set]; exact hmi), List.getElem_set_self]
      have h0i : 0 ≤ (i : Int) := by omega
      have e1 := ht1 K (by omega)
      have e2 := ht2 K (by omega)
      have e3 := ht3 K (by omega)
      rw [laws_markItemS.l0, if_pos hil, e1, Option.bind_some, if_pos h0i, Int.toNat_natCast, w1, w2, w3, w4, w5, wi, ← hb]
      rw [Option.bind_some, e2, Option.bind_some, rs l _ hi, List.set_set]
      dsimp only
      rw [Option.bind_some, e3, Option.bind_some, rs l _ hi, List.set_set]
      dsimp only
      rw [Option.bind_some, rs l _ hi, List.set_set]
      dsimp only
      rw [Option.bind_some, rs l _ hi, List.set_set]
      dsimp only
      rw [hl1]
      exact hm K (by omega)
    · obtain ⟨K, rfl⟩ : ∃ k, K = k + 1 := ⟨K - 1, by omega⟩
      have hli : i < l'.length := by omega
      have hx : rd_T33 l' (i : Int) = (⟨t1, t2, t3, ((k1 + 3 : Nat) : Int), b⟩ : S33) := by
        rw [rd33 l' i hli]
        rw [List.getElem?_eq_getElem hli] at hget
        exact Option.some.inj hget
      have e1 := ht1 K (by omega)
      have e2 := ht2 K (by omega)
      have e3 := ht3 K (by omega)
      rw [laws_heldItemS.l0, if_pos (by omega), if_pos (by omega), e1]
      simp only [Option.bind_some, hx, w1, w2, w3, w4, w5, wi, e2, e3, if_true, ← hb, bne_self_eq_false, Bool.false_eq_true, if_false]
      exact hh K (by omega)

/-- A list that is marked from k1 and then read. -/
theorem marked (l : List S33) (k1 : Nat) (h0 : 1 ≤ k1) (h1 : k1 ≤ 10000000000000) (h : l.length ≤ 10000000000000) : ∃ (l' : List S33), (∀ K, l.length + 50 ≤ K → laws_markItemS.f K l (k1 : Int) = some (((k1 + 5 * l.length : Nat) : Int), l') ∧ laws_heldItemS.f K l' (k1 : Int) = some ((k1 + 5 * l.length : Nat) : Int)) := by
  obtain ⟨l', _, _, hm, hh⟩ := mark_loop l.length 0 k1 l (by omega) (by omega) (by omega) (by omega)
  exact ⟨l', fun K hK => ⟨hm K (by omega), hh K (by omega)⟩⟩

theorem eq_loop' (l : List S33) (hl : l.length ≤ 100000000) : ∀ (k i : Nat), i ≤ l.length → l.length - i < k → laws_eqItemS.l0 k l l (i : Int) = some true
  | 0, i, h3, h4 => by omega
  | k + 1, i, h3, h4 => by
    rw [laws_eqItemS.l0]
    by_cases hi : (i : Int) < (l.length : Int)
    · rw [if_pos hi, if_pos (by omega), if_pos hi]
      unfold laws_eqItem.f
      simp only [if_true, bne_self_eq_false, Bool.false_eq_true, if_false, Option.bind_some]
      rw [wrap64_at ((i : Int) + 1) (by omega), show ((i : Int) + 1) = ((i + 1 : Nat) : Int) by omega]
      exact eq_loop' l hl k (i + 1) (by omega) (by omega)
    · rw [if_neg hi]
theorem eq_list (l : List S33) (hl : l.length ≤ 100000000) (k : Nat) (hk : l.length < k) : laws_eqItemS.f k l l = some true := by
  unfold laws_eqItemS.f
  rw [if_pos rfl]
  exact eq_loop' l hl k 0 (by omega) (by omega)
end Go.Proofs.Ytgfmapilimlamaa.QFnExactRosterFollow
