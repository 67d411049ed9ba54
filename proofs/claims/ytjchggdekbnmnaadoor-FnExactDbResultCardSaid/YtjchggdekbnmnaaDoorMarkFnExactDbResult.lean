/- Plain: what is marked is held. -/
import Derived.Test.YtjchggdekbnmnaaDoorDialbackFnExactDbResult
set_option linter.unusedSimpArgs false
set_option linter.unusedVariables false
namespace Go.Proofs.YtjchggdekbnmnaaDoor.QFnExactDbResult
open Go Go.RowKit Go.Proofs.YtjchggdekbnmnaaDoorW.PrintWords

/-! ### steps -/
theorem bs {α β : Type} {x : Option α} {v : α} {f : α → Option β} {r : Option β} (h : x = some v) (k : f v = r) : x.bind f = r := by subst h; exact k
theorem it {β : Type} {A B r : β} {d : Decidable (true = true)} (h : A = r) : (@ite _ (true = true) d A B) = r := (if_pos rfl).trans h
/-! ### the text of a number -/
theorem mtext_loop : ∀ (d : Nat) (x : Nat) (acc : ByteArray), x < 10 ^ d → x ≤ 1000000000000000000 → acc.size + d ≤ 1000 → ∃ t : ByteArray, t.size ≤ acc.size + d + 1 ∧ ∀ K, d + 1 ≤ K → laws_markText.l0 K (x : Int) acc = some t
  | 0, x, acc, hx, hx2, ha => by
    have : x = 0 := by simpa using hx
    subst this
    refine ⟨(⟨#[109]⟩ : ByteArray) ++ acc, ?_, fun K hK => ?_⟩
    · rw [ByteArray.size_append]; show 1 + acc.size ≤ _; omega
    · obtain ⟨K, rfl⟩ : ∃ k, K = k + 1 := ⟨K - 1, by omega⟩
      rw [laws_markText.l0, if_neg (by decide), if_pos (by omega)]
  | d + 1, x, acc, hx, hx2, ha => by
    by_cases c : x = 0
    · subst c
      refine ⟨(⟨#[109]⟩ : ByteArray) ++ acc, ?_, fun K hK => ?_⟩
      · rw [ByteArray.size_append]; show 1 + acc.size ≤ _; omega
      · obtain ⟨K, rfl⟩ : ∃ k, K = k + 1 := ⟨K - 1, by omega⟩
        rw [laws_markText.l0, if_neg (by decide), if_pos (by omega)]
    · generalize hs : strOfNums ([(wrap64 (48 + (Int.tmod (x : Int) 10))) % 256] : List Int) = s
      have hs1 : s.size = 1 := by rw [← hs]; rfl
      have hsz : (s ++ acc).size = acc.size + 1 := by rw [ByteArray.size_append, hs1]; omega
      obtain ⟨t, ht, hK⟩ := mtext_loop d (x / 10) (s ++ acc) (by rw [Nat.pow_succ] at hx; omega) (by omega) (by omega)
      refine ⟨t, by omega, fun K hK' => ?_⟩
      obtain ⟨K, rfl⟩ : ∃ k, K = k + 1 := ⟨K - 1, by omega⟩
      have hw : wrap64 (Int.tdiv (x : Int) 10) = ((x / 10 : Nat) : Int) := by
        have e : Int.tdiv (x : Int) 10 = ((x / 10 : Nat) : Int) := by rw [Int.tdiv_eq_ediv_of_nonneg (by omega)]; omega
        rw [e]
        exact wrap64_at _ (by omega)
      rw [laws_markText.l0, if_pos (by omega)]
      simp only [Option.bind_some]
      rw [hs, if_pos (by omega), hw]
      exact hK K (by omega)
theorem mtext (x : Nat) (h0 : 1 ≤ x) (h : x ≤ 1000000000000000) : ∃ t : ByteArray, ∀ K, 30 ≤ K → laws_markText.f K (x : Int) = some t := by
  have h19 : (10 : Nat) ^ 19 = 10000000000000000000 := by decide
  obtain ⟨t, _, hK⟩ := mtext_loop 19 x (⟨#[]⟩ : ByteArray) (by omega) (by omega) (by decide)
  refine ⟨t, fun K h30 => ?_⟩
  unfold laws_markText.f
  rw [if_neg (by omega)]
  exact hK K (by omega)

/-! ### marked, held -/
theorem mark_loop (d : Nat) : ∀ (i k1 : Nat) (l : List S71), i + d = l.length → 1 ≤ k1 → k1 + 4 * d ≤ 100000000000000 → l.length ≤ 100000000000000 →
    ∃ l' : List S71, l'.length = l.length ∧ (∀ j, j < i → l'[j]? = l[j]?) ∧ (∀ K, d + 40 ≤ K → laws_markPeerS.l0 K l (k1 : Int) (i : Int) = some (((k1 + 4 * d : Nat) : Int), l')) ∧
      (∀ K, d + 40 ≤ K → laws_heldPeerS.l0 K l' (k1 : Int) (i : Int) = some ((k1 + 4 * d : Nat) : Int)) := by
  induction d with
  | zero =>
    intro i k1 l h1 h2 h3 h4
    refine ⟨l, rfl, fun j _ => rfl, fun K hK => ?_, fun K hK => ?_⟩ <;> obtain ⟨K, rfl⟩ : ∃ k, K = k + 1 := ⟨K - 1, by omega⟩
    · rw [laws_markPeerS.l0, if_neg (by omega)]; rfl
    · rw [laws_heldPeerS.l0, if_neg (by omega)]; rfl
  | succ d ih =>
    intro i k1 l h1 h2 h3 h4
    obtain ⟨t1, ht1⟩ := mtext k1 h2 (by omega)
    obtain ⟨t2, ht2⟩ := mtext (k1 + 3) (by omega) (by omega)
    have w1 : wrap64 ((k1 : Int) + 1) = ((k1 + 1 : Nat) : Int) := by rw [wrap64_at _ (by omega)]; omega
    have w2 : wrap64 (((k1 + 1 : Nat) : Int) + 1) = ((k1 + 2 : Nat) : Int) := by rw [wrap64_at _ (by omega)]; omega
    have w3 : wrap64 (((k1 + 2 : Nat) : Int) + 1) = ((k1 + 3 : Nat) : Int) := by rw [wrap64_at _ (by omega)]; omega
    have w4 : wrap64 (((k1 + 3 : Nat) : Int) + 1) = ((k1 + 4 : Nat) : Int) := by rw [wrap64_at _ (by omega)]; omega
    have wi : wrap64 ((i : Int) + 1) = ((i + 1 : Nat) : Int) := by rw [wrap64_at _ (by omega)]; omega
    have hi : i < l.length := by omega
    have hil : (i : Int) < (l.length : Int) := by omega
    generalize hl1 : l.set i (⟨t1, ((k1 + 1 : Nat) : Int), ((k1 + 2 : Nat) : Int), t2⟩ : S71) = l1
    have hlen1 : l1.length = l.length := by rw [← hl1, List.length_set]
    obtain ⟨l', hlen, hpre, hm, hh⟩ := ih (i + 1) (k1 + 4) l1 (by omega) (by omega) (by omega) (by omega)
    have hget : l'[i]? = some (⟨t1, ((k1 + 1 : Nat) : Int), ((k1 + 2 : Nat) : Int), t2⟩ : S71) := by
      rw [hpre i (by omega), ← hl1, List.getElem?_set_self hi]
    have hsum : k1 + 4 + 4 * d = k1 + 4 * (d + 1) := by omega
    rw [hsum] at hm hh
    refine ⟨l', by omega, fun j hj => ?_, fun K hK => ?_, fun K hK => ?_⟩
    · rw [hpre j (by omega), ← hl1, List.getElem?_set_ne (by omega)]
    · obtain ⟨K, rfl⟩ : ∃ k, K = k + 1 := ⟨K - 1, by omega⟩
      have rs : ∀ (m : List S71) (x : S71), i < m.length → rd_T71 (m.set i x) (i : Int) = x := fun m x hmi => by
        rw [rd71 _ i (by rw [List.length_set]; exact hmi), List.getElem_set_self]
      have h0i : 0 ≤ (i : Int) := by omega
      have e2 := ht2 K (by omega)
      rw [laws_markPeerS.l0, if_pos hil, ht1 K (by omega), Option.bind_some, if_pos h0i, Int.toNat_natCast, w1, w2, w3, w4, wi]
      rw [Option.bind_some, rs l _ hi, List.set_set]
      dsimp only
      rw [Option.bind_some, rs l _ hi, List.set_set]
      dsimp only
      rw [Option.bind_some, rs l _ hi]
      dsimp only
      rw [e2, Option.bind_some, List.set_set, hl1]
      exact hm K (by omega)
    · obtain ⟨K, rfl⟩ : ∃ k, K = k + 1 := ⟨K - 1, by omega⟩
      have hli : i < l'.length := by omega
      have hx : rd_T71 l' (i : Int) = (⟨t1, ((k1 + 1 : Nat) : Int), ((k1 + 2 : Nat) : Int), t2⟩ : S71) := by
        rw [rd71 l' i hli]
        rw [List.getElem?_eq_getElem hli] at hget
        exact Option.some.inj hget
      rw [laws_heldPeerS.l0, if_pos (by omega), if_pos (by omega), ht1 K (by omega)]
      simp only [Option.bind_some, hx, w1, w2, w3, w4, wi, ht2 K (by omega), if_true]
      exact hh K (by omega)

/-- A list that is marked from 1 and then read. -/
theorem marked (l : List S71) (h : l.length ≤ 10000000000000) : ∃ (m : Nat) (l' : List S71), (∀ K, l.length + 50 ≤ K → laws_markPeerS.f K l 1 = some ((m : Int), l') ∧ laws_heldPeerS.f K l' 1 = some (m : Int)) := by
  obtain ⟨l', _, _, hm, hh⟩ := mark_loop l.length 0 1 l (by omega) (by omega) (by omega) (by omega)
  exact ⟨_, l', fun K hK => ⟨hm K (by omega), hh K (by omega)⟩⟩

theorem eq_loop' (l : List S71) (hl : l.length ≤ 1048577) : ∀ (k i : Nat), i ≤ l.length → l.length - i < k → laws_eqPeerS.l0 k l l (i : Int) = some true
  | 0, i, h3, h4 => by omega
  | k + 1, i, h3, h4 => by
    rw [laws_eqPeerS.l0]
    by_cases hi : (i : Int) < (l.length : Int)
    · rw [if_pos hi, if_pos (by omega), if_pos hi]
      unfold laws_eqPeer.f
      simp only [if_true, Option.bind_some]
      rw [wrap64_at ((i : Int) + 1) (by omega), show ((i : Int) + 1) = ((i + 1 : Nat) : Int) by omega]
      exact eq_loop' l hl k (i + 1) (by omega) (by omega)
    · rw [if_neg hi]
theorem eq_out (a : ByteArray) (n : Int) (l : List S71) (x y : Int) (hl : l.length ≤ 1048577) (k : Nat) (hk : l.length < k) : laws_eqDialbackOut.f k a n l x y a n l x y = some true := by
  unfold laws_eqDialbackOut.f laws_eqDialback.f laws_eqPeerS.f
  rw [if_pos rfl, if_pos rfl, show (0 : Int) = ((0 : Nat) : Int) from rfl, eq_loop' l hl k 0 (by omega) (by omega)]
  simp
end Go.Proofs.YtjchggdekbnmnaaDoor.QFnExactDbResult
