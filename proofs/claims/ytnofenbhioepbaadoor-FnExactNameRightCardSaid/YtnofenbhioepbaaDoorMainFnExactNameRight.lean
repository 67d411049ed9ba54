/- Plain: a text is a name by the program just where it is one by the reference. -/
import Derived.Test.YtnofenbhioepbaaDoorQFnExactNameRightx
import Derived.IntWalk
import Derived.Lib.SlTrimSet
set_option linter.unusedSimpArgs false
set_option linter.unusedVariables false
namespace Go.Proofs.YtnofenbhioepbaaDoor.QFnExactNameRight
open Go Go.RowKit Go.Proofs.YtnofenbhioepbaaDoorW.PrintWords

theorem dropWhile_nil {α : Type} (p : α → Bool) : ∀ l : List α, l.dropWhile p = [] ↔ ∀ x ∈ l, p x = true
  | [] => by simp
  | a :: l => by
    have ih := dropWhile_nil p l
    by_cases h : p a = true
    · simp only [List.dropWhile_cons, h, if_true, ih, List.mem_cons, forall_eq_or_imp, true_and]
    · simp only [List.dropWhile_cons, h, if_false, List.mem_cons, forall_eq_or_imp, false_and]
      simp [h]

/-- A text without its trailing signs of a sort ends in none of them, where anything is left. -/
theorem dropWhile_head {α : Type} (p : α → Bool) : ∀ (l : List α) a r, l.dropWhile p = a :: r → p a = false
  | [], a, r, h => by simp at h
  | b :: l, a, r, h => by
    by_cases hb : p b = true
    · rw [List.dropWhile_cons, if_pos hb] at h
      exact dropWhile_head p l a r h
    · rw [List.dropWhile_cons, if_neg hb] at h
      obtain ⟨rfl, _⟩ := List.cons.inj h
      simpa using hb

/-- Nothing is left of a text from which signs are trimmed just where all its bytes are such signs. -/
theorem trim_nil (l cs : List UInt8) : Lib.trimS l cs = [] ↔ ∀ x ∈ l, cs.contains x = true := by
  unfold Lib.trimS Lib.trimLeftS Lib.trimRightS
  constructor
  · intro h x hx
    rw [dropWhile_nil] at h
    cases hd : l.reverse.dropWhile (cs.contains ·) with
    | nil =>
      rw [dropWhile_nil] at hd
      exact hd x (List.mem_reverse.2 hx)
    | cons a r =>
      have h1 := dropWhile_head _ _ _ _ hd
      have h2 := h a (by rw [hd]; simp)
      rw [h1] at h2
      cases h2
  · intro h
    have h1 : l.reverse.dropWhile (cs.contains ·) = [] := (dropWhile_nil _ _).2 (fun y hy => h y (List.mem_reverse.1 hy))
    rw [h1]
    rfl

theorem wrap64_at (n : Int) (h : -9223372036854775808 ≤ n ∧ n ≤ 9223372036854775807) : wrap64 n = n := by unfold wrap64; omega

abbrev S37 : ByteArray := ⟨#[97, 98, 99, 100, 101, 102, 103, 104, 105, 106, 107, 108, 109, 110, 111, 112, 113, 114, 115, 116, 117, 118, 119, 120, 121, 122, 48, 49, 50, 51, 52, 53, 54, 55, 56, 57, 95]⟩
abbrev S26 : ByteArray := ⟨#[97, 98, 99, 100, 101, 102, 103, 104, 105, 106, 107, 108, 109, 110, 111, 112, 113, 114, 115, 116, 117, 118, 119, 120, 121, 122]⟩
theorem in37' : ∀ n : Fin 256, S37.data.toList.contains (UInt8.ofNat n.val) = decide ((97 ≤ n.val ∧ n.val ≤ 122) ∨ (48 ≤ n.val ∧ n.val ≤ 57) ∨ n.val = 95) := by decide +kernel
theorem in26' : ∀ n : Fin 256, decide (Lib.indexByte S26.data.toList (UInt8.ofNat n.val) ≥ 0) = decide (97 ≤ n.val ∧ n.val ≤ 122) := by decide +kernel
theorem in37 (b : UInt8) : S37.data.toList.contains b = decide ((97 ≤ b.toNat ∧ b.toNat ≤ 122) ∨ (48 ≤ b.toNat ∧ b.toNat ≤ 57) ∨ b.toNat = 95) := by
  have h := in37' ⟨b.toNat, b.toNat_lt⟩
  rw [show UInt8.ofNat (⟨b.toNat, b.toNat_lt⟩ : Fin 256).val = b from UInt8.ofNat_toNat] at h
  exact h
theorem in26 (b : UInt8) : decide (Lib.indexByte S26.data.toList b ≥ 0) = decide (97 ≤ b.toNat ∧ b.toNat ≤ 122) := by
  have h := in26' ⟨b.toNat, b.toNat_lt⟩
  rw [show UInt8.ofNat (⟨b.toNat, b.toNat_lt⟩ : Fin 256).val = b from UInt8.ofNat_toNat] at h
  exact h

/-- A byte that a name may bear at a place. -/
def okAt (a : ByteArray) (j : Int) : Prop := (97 ≤ bt a j ∧ bt a j ≤ 122) ∨ (j ≠ 0 ∧ ((48 ≤ bt a j ∧ bt a j ≤ 57) ∨ bt a j = 95))
instance (a : ByteArray) (j : Int) : Decidable (okAt a j) := by unfold okAt; infer_instance

theorem spec_loop (a : ByteArray) (hs : a.size ≤ 1048576) : ∀ (k : Nat) (i : Int), 0 ≤ i → i ≤ (a.size : Int) → (a.size : Int) - i < (k : Int) →
    ∃ b : Bool, spec_NameRight.l0 k a i = some b ∧ (b = true ↔ ∀ j : Int, i ≤ j → j < (a.size : Int) → okAt a j)
  | 0, i, h0, h1, h2 => by omega
  | k + 1, i, h0, h1, h2 => by
    rw [spec_NameRight.l0]
    by_cases hi : i < (a.size : Int)
    · rw [if_pos hi, if_pos h0, wrap64_at (i + 1) (by omega)]
      obtain ⟨b, e, hb⟩ := spec_loop a hs k (i + 1) (by omega) (by omega) (by omega)
      have hT : okAt a i → ∃ b' : Bool, spec_NameRight.l0 k a (i + 1) = some b' ∧ (b' = true ↔ ∀ j : Int, i ≤ j → j < (a.size : Int) → okAt a j) := by
        intro ho
        refine ⟨b, e, hb.trans ⟨fun h j h3 h4 => ?_, fun h j h3 h4 => h j (by omega) h4⟩⟩
        by_cases hj : j = i
        · subst hj; exact ho
        · exact h j (by omega) h4
      have hF : ¬ okAt a i → ∃ b' : Bool, some false = some b' ∧ (b' = true ↔ ∀ j : Int, i ≤ j → j < (a.size : Int) → okAt a j) := by
        intro ho
        refine ⟨false, rfl, ⟨fun h => (by cases h), fun h => absurd (h i (by omega) hi) ho⟩⟩
      generalize hx : bt a i = x at *
      have hok : okAt a i ↔ ((97 ≤ x ∧ x ≤ 122) ∨ (i ≠ 0 ∧ ((48 ≤ x ∧ x ≤ 57) ∨ x = 95))) := by unfold okAt; rw [hx]
      by_cases c1 : x ≥ 97
      · rw [if_pos c1]
        by_cases c2 : x ≤ 122
        · rw [if_pos c2]; exact hT (hok.2 (Or.inl ⟨c1, c2⟩))
        · rw [if_neg c2]
          by_cases c3 : i = 0
          · rw [if_pos c3]; exact hF (fun h => by have := hok.1 h; omega)
          · rw [if_neg c3, if_pos (show x ≥ 48 by omega), if_neg (show ¬ x ≤ 57 by omega), if_neg (show ¬ x = 95 by omega)]
            exact hF (fun h => by have := hok.1 h; omega)
      · rw [if_neg c1]
        by_cases c3 : i = 0
        · rw [if_pos c3]; exact hF (fun h => by have := hok.1 h; omega)
        · rw [if_neg c3]
          by_cases c4 : x ≥ 48
          · rw [if_pos c4]
            by_cases c5 : x ≤ 57
            · rw [if_pos c5]; exact hT (hok.2 (by omega))
            · rw [if_neg c5]
              by_cases c6 : x = 95
              · rw [if_pos c6]; exact hT (hok.2 (by omega))
              · rw [if_neg c6]; exact hF (fun h => by have := hok.1 h; omega)
          · rw [if_neg c4]
            by_cases c6 : x = 95
            · rw [if_pos c6]; exact hT (hok.2 (by omega))
            · rw [if_neg c6]; exact hF (fun h => by have := hok.1 h; omega)
    · rw [if_neg hi]
      exact ⟨true, rfl, ⟨fun _ j h3 h4 => absurd h4 (by omega), fun _ => rfl⟩⟩

theorem bt_mem (a : ByteArray) (j : Nat) (h : j < a.data.toList.length) : bt a (j : Int) = ((a.data.toList[j]'h).toNat : Int) := by
  have hs : j < a.size := by simpa using h
  rw [← bt_at a (j : Int) (by simpa using hs)]
  rfl

theorem law_pure : laws_FnExactNameRight.Pure := by
  intro a hw
  unfold laws_FnExactNameRight.f
  by_cases hbig : (a.size : Int) > 1048576
  · exact ⟨0, by rw [if_pos hbig]⟩
  · have hs : a.size ≤ 1048576 := by omega
    simp only [if_neg hbig]
    -- both judge alike
    have key : ∃ k b, spec_NameRight.f k a = some b ∧ impl_NameRight.f a = some b := by
      unfold spec_NameRight.f impl_NameRight.f impl_in.f
      by_cases h1 : (a.size : Int) < 1
      · refine ⟨1, false, ?_, ?_⟩
        · rw [if_pos h1, spec_NameRight.j0, if_pos rfl]
        · rw [if_neg (show ¬ (a.size : Int) ≥ 1 by omega)]; rfl
      · by_cases h2 : (a.size : Int) > 20
        · refine ⟨1, false, ?_, ?_⟩
          · rw [if_neg h1, spec_NameRight.j0, decide_eq_true h2, if_pos rfl]
          · rw [if_pos (show (a.size : Int) ≥ 1 by omega), show decide ((a.size : Int) ≤ 20) = false from decide_eq_false (by omega)]; rfl
        · obtain ⟨b, e, hb⟩ := spec_loop a hs (a.size + 1) 0 (by omega) (by omega) (by omega)
          refine ⟨a.size + 2, b, ?_, ?_⟩
          · rw [if_neg h1, spec_NameRight.j0, decide_eq_false h2, if_neg (by decide)]; exact e
          · rw [if_pos (show (a.size : Int) ≥ 1 by omega), show decide ((a.size : Int) ≤ 20) = true from decide_eq_true (by omega)]
            simp only [Option.bind_some, if_true]
            unfold impl_only.f
            rw [if_pos (by omega), if_pos (by decide), if_pos (by decide +kernel)]
            simp only [Option.bind_some]
            have hlen : a.data.toList.length = a.size := rfl
            have hall : (∀ x ∈ a.data.toList, S37.data.toList.contains x = true) ↔ ∀ j : Int, 0 ≤ j → j < (a.size : Int) → ((97 ≤ bt a j ∧ bt a j ≤ 122) ∨ (48 ≤ bt a j ∧ bt a j ≤ 57) ∨ bt a j = 95) := by
              constructor
              · intro h j h3 h4
                obtain ⟨n, rfl⟩ := Int.eq_ofNat_of_zero_le h3
                have hn : n < a.data.toList.length := by omega
                have := h _ (List.getElem_mem hn)
                rw [in37] at this
                rw [bt_mem a n hn]
                have := of_decide_eq_true this
                omega
              · intro h x hx
                obtain ⟨n, hn, rfl⟩ := List.mem_iff_getElem.1 hx
                have := h (n : Int) (by omega) (by omega)
                rw [bt_mem a n hn] at this
                rw [in37]
                exact decide_eq_true (by omega)
            have h0n : 0 < a.data.toList.length := by omega
            by_cases ht : Lib.trimS a.data.toList S37.data.toList = []
            · rw [if_pos (decide_eq_true ht), if_pos (show (0 : Int) < (a.size : Int) by omega)]
              unfold strings_IndexByte.f
              simp only [Option.bind_some]
              have hbt := bt_mem a 0 h0n
              have hb0 : (bt a 0).toNat.toUInt8 = a.data.toList[0]'h0n := by
                have : bt a 0 = ((a.data.toList[0]'h0n).toNat : Int) := hbt
                rw [this]; simp
              rw [hb0, in26]
              refine congrArg some ?_
              have hA := hall.1 ((trim_nil _ _).1 ht)
              have hbt' : bt a 0 = ((a.data.toList[0]'h0n).toNat : Int) := hbt
              rw [Bool.eq_iff_iff, decide_eq_true_iff, hb]
              constructor
              · intro hf j h3 h4
                unfold okAt
                by_cases hj : j = 0
                · subst hj; left; omega
                · have := hA j h3 h4
                  rcases this with h | h | h
                  · exact Or.inl h
                  · exact Or.inr ⟨hj, Or.inl h⟩
                  · exact Or.inr ⟨hj, Or.inr h⟩
              · intro hf
                have := hf 0 (by omega) (by omega)
                unfold okAt at this
                omega
            · rw [if_neg (by simpa using ht)]
              refine congrArg some (Eq.symm ?_)
              rw [Bool.eq_false_iff]
              intro hbt
              refine ht ((trim_nil _ _).2 (hall.2 fun j h3 h4 => ?_))
              have := hb.1 hbt j h3 h4
              unfold okAt at this
              rcases this with h | ⟨_, h⟩
              · exact Or.inl h
              · exact Or.inr h
    obtain ⟨k, b, e1, e2⟩ := key
    refine ⟨k, ?_⟩
    rw [e1, e2]
    simp
theorem law_walk (a0 : ByteArray) (w : World) (w0 : a0.size ≤ 140737488351232) :
    Calls Tryd.prog 3 #[.string a0] w fun e w' => e = .returned (.bool true) ∧ Below w.heap.size w w' := laws_FnExactNameRight.walk law_pure a0 w w0
end Go.Proofs.YtnofenbhioepbaaDoor.QFnExactNameRight
